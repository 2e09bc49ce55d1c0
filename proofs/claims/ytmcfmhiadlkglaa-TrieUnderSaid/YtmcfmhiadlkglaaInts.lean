/-
  Slices of integers that are only read; truth values. No condition.
-/
import Derived.Test.YtmcfmhiadlkglaaAr2
namespace Go.Proofs.Ytmcfmhiadlkglaa.Sx
open Go
theorem dec_no {p : Prop} [Decidable p] (h : ¬ p) : Go.Value.bool false = .bool (decide p) := by simp [h]
theorem dec_yes {p : Prop} [Decidable p] (h : p) : Go.Value.bool true = .bool (decide p) := by simp [h]
theorem dec_iff {p q : Prop} [Decidable p] [Decidable q] (h : p ↔ q) : Go.Value.bool (decide p) = .bool (decide q) := by simp [h]
/-- A slice's address behind which integers stand. -/
def IntsAt (l : List HP) (q : Option Addr) (xs : List Int) : Prop := 0 < xs.length → ∃ b i, q = some ⟨b, i, none⟩ ∧ ∀ k (h : k < xs.length), Rd l b (i + k) (.int .i64 xs[k])
theorem Sep.intsSls {l l' : List HP} {w : World} {r : Option Addr} {n c : Nat} {T : TypeId} {xs : List Int} (h : Sep l w) (p : Pk (sls r n c T 1 (xs.flatMap e1)) l l') : IntsAt l r xs := by
  intro hpos
  rcases (h.pk p).slsE with ⟨_, _, _, h4, _⟩ | ⟨b, rest, h1, _, _, _, _⟩
  · exfalso
    have : (xs.flatMap e1).length = xs.length * 1 := flat_len e1_len xs
    rw [h4] at this; simp at this; omega
  · subst h1
    exact ⟨b, 0, rfl, fun k hk => Rd.at (Rds.rd (Rds.sls p e1_len hk) rfl) (by omega)⟩
theorem IntsAt.blk {l l' : List HP} {b : Nat} {T : TypeId} {xs : List Int} {cs : List Value} (p : Pk (Sx.blk b cs T) l l') (e : cs = xs.flatMap e1) : IntsAt l (some ⟨b, 0, none⟩) xs := by
  subst e
  intro _
  exact ⟨b, 0, rfl, fun k hk => Rd.at (Rd.flat (j := 0) p e1_len hk rfl) (by omega)⟩
theorem take_next {xs ys : List Int} {k : Nat} (h : xs.take k = ys.take k) (h1 : k < xs.length) (h2 : k < ys.length) (e : xs[k] = ys[k]) : xs.take (k + 1) = ys.take (k + 1) := by
  rw [List.take_succ_eq_append_getElem h1, List.take_succ_eq_append_getElem h2, h, e]
end Go.Proofs.Ytmcfmhiadlkglaa.Sx
