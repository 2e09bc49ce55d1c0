/-
  My plain texts put together into one module.
-/
import Derived.Test.YtkhdejjompbklaaKPza
namespace Go.Proofs.Ytkhdejjompbklaa.Sx
open Go
set_option linter.unusedVariables false
set_option linter.unusedSimpArgs false
section
variable {O : List (Int × Nat)} {i j s x : Nat}
theorem asD_some {S lim : Nat} {D : Dk} (h : DW S lim D) {b : Int} (hb : ofO D.T.O (x : Int) = some b) : asD S D (x : Int) = !decide (x ∈ D.ord) := by
  obtain ⟨s, e, hm⟩ := ofO_in hb
  have e2 : x = s := by omega
  subst e2
  unfold asD
  rw [(clsE_of h hm).1, Int.toNat_natCast]; simp
theorem asD_none {S lim : Nat} {D : Dk} (h : DW S lim D) (hx : x < S) (hb : ofO D.T.O (x : Int) = none) : asD S D (x : Int) = false ∧ x ∉ D.ord := by
  refine ⟨?_, fun hm => ?_⟩
  · unfold asD
    rw [(cls_none (S := S) (T := D.T) (by omega) hb).1]; rfl
  · obtain ⟨b, hq⟩ := h.ordOf hm
    exact ofO_none.1 hb _ hq rfl
end
end Go.Proofs.Ytkhdejjompbklaa.Sx
