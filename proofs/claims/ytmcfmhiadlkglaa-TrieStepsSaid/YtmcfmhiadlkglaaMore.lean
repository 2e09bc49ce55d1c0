/-
  Further rules over Ops, Step and Slice. No condition.
-/
import Derived.Test.YtmcfmhiadlkglaaSlice
namespace Go.Proofs.Ytmcfmhiadlkglaa.Sx
open Go
theorem lk_without_not {M : List Nat} {S : Slots} {k : Nat} (h : ¬ M.any (Nat.beq k) = true) : lk k (without M S) = lk k S := by
  induction S with
  | nil => rfl
  | cons p S ih =>
    obtain ⟨t, v⟩ := p
    rw [without_cons]
    split
    · rename_i hc
      rw [lk_cons, if_neg (fun e => by subst e; exact h hc)]; exact ih
    · rw [lk_cons, lk_cons, ih]
/-- Inside a loop in a loop: what the inner one keeps. -/
theorem Le_inner {M M' : List Nat} {B S : Slots} (h : (M'.all fun x => M.any (Nat.beq x)) = true) (l : Le (without M B) S) : Le (without M B) (without M' S) := by
  intro t v e
  by_cases hm : M.any (Nat.beq t) = true
  · rw [lk_without hm] at e; cases e
  · rw [lk_without_not]
    · exact l t v e
    · intro h'
      obtain ⟨x, hx, hxt⟩ := List.any_eq_true.1 h'
      have := List.all_eq_true.1 h x hx
      have e' : t = x := Nat.eq_of_beq_eq_true hxt
      subst e'; exact hm this
end Go.Proofs.Ytmcfmhiadlkglaa.Sx
