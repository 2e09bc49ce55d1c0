/-
  Slots in the order in which they were seen: any slot. Nothing of a program stands here.
-/
import Derived.Test.YtojeibjlkbffcaaLru4
namespace Go.Proofs.Ytojeibjlkbffcaa.Sx
open Go
set_option linter.unusedVariables false
theorem LS.seeI {S : Nat} {ord : List Nat} {T tm : Nat → Int} {now s : Int} (h : LS S ord T now tm) (hn : 0 ≤ now) : LS S (seeO S ord s) (seeT S T now s) (seeN S now s) (seeT S tm now s) := by
  by_cases hs : 0 ≤ s ∧ s < S
  · obtain ⟨x, rfl⟩ : ∃ x : Nat, s = x := ⟨s.toNat, by omega⟩
    have hx : x < S := by omega
    rw [see_O hx, see_T hx, see_N hx, see_T hx]
    exact h.see hx hn
  · rw [see_outO hs, see_outT hs, see_outN hs, see_outT hs]
    exact h
theorem seeN_bd {S : Nat} {now s : Int} : now ≤ seeN S now s ∧ seeN S now s ≤ now + 1 := by
  unfold seeN; split <;> omega
theorem LS.all {S : Nat} {ord : List Nat} {T tm : Nat → Int} {now : Int} (h : LS S ord T now tm) : ord.filter (fun j => decide (T j > 0)) = ord := by
  rw [List.filter_eq_self]
  intro x hx
  exact decide_eq_true (h.bd x hx).1
theorem whenV_yes {S : Nat} {ord : List Nat} {T : Nat → Int} {v : Int} (h : 0 ≤ v ∧ v < S ∧ v.toNat ∈ ord) : whenV S ord T v = .tuple [.int .i64 (T v.toNat), .bool true].toArray := if_pos h
theorem whenV_no {S : Nat} {ord : List Nat} {T : Nat → Int} {v : Int} (h : ¬ (0 ≤ v ∧ v < S ∧ v.toNat ∈ ord)) : whenV S ord T v = .tuple [.int .i64 0, .bool false].toArray := if_neg h
end Go.Proofs.Ytojeibjlkbffcaa.Sx
