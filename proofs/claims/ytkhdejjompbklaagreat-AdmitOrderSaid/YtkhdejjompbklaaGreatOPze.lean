/-
  My plain texts put together into one module.
-/
import Derived.Test.YtkhdejjompbklaaGreatOPza
namespace Go.Proofs.YtkhdejjompbklaaGreat.Sx
open Go
set_option linter.unusedVariables false
set_option linter.unusedSimpArgs false
section
variable {S lim : Nat} {t p u : Int} {D : Dk} {a n x k : Int} {m : Nat}
theorem held_none (h : rcR D.T.R a = none) : heldD D a = none := by unfold heldD; rw [h]; rfl
theorem held_some {q : Nat} {c : Int × Int} (h : rcR D.T.R a = some q) (hc : D.B[q]? = some c) : heldD D a = some c := by unfold heldD; rw [h]; simp [hc]
theorem DKF.held (h : DKF S lim t p u D) : RB t p u ((heldD D a).getD (u * p, D.now)).1 ((heldD D a).getD (u * p, D.now)).2 ∧ ((heldD D a).getD (u * p, D.now)).2 ≤ D.now := by
  have hm := h.rr.most
  have hn := h.w.now
  cases hr : rcR D.T.R a with
  | none => rw [held_none hr]; exact ⟨⟨h.rr, hm.1, Int.le_refl _, hn.1, hn.2⟩, Int.le_refl _⟩
  | some q =>
    obtain ⟨c, h1, h2, h3⟩ := h.bok _ (rcR_in hr)
    rw [held_some hr h1]; exact ⟨h2, h3⟩
end
end Go.Proofs.YtkhdejjompbklaaGreat.Sx
