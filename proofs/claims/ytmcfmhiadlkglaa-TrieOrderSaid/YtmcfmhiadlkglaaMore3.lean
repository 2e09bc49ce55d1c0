/-
  A place in a slice whose address begins a block. No condition.
-/
import Derived.Test.YtmcfmhiadlkglaaAuto
namespace Go.Proofs.Ytmcfmhiadlkglaa.Sx
open Go
set_option linter.unusedVariables false
section
variable {P : Program} {n : Nat} {a : Act} {S : Slots} {l : List HP} {w : World} {dd : Option Nat} {t : TypeId} {pos : String} {af : Array Edge} {g : Option (Nat × Bool)}
variable {r : Option Addr} {m cap : Nat} {T : TypeId} {sz : Nat} {cs : List Value}
def Bk (r : Option Addr) : Prop := r = some ⟨blkOf r, 0, none⟩
theorem Sep.bk (h : Sep (sls r m cap T sz cs :: l) w) (hm : 0 < m) : Bk r := by
  rcases h.slsE with ⟨_, h2, _⟩ | ⟨b, rest, hr, _, _, _, _⟩
  · omega
  · subst hr; rfl
theorem Yld.indexH {ty e : TypeId} {x y : Operand} {ik : IntKind} {i : Int} {z : TypeInfo} (k : Nat) (hS : Has n a S) (hx : ev S x = some (.slice r m cap)) (hy : ev S y = some (.int ik i))
    (hu : P.underlying ty = some (.slice e)) (hi : P.info? e = some z) (hb : Bk r) (hz : z.size = sz) (hk : i = (k : Int)) (h1 : k < m) :
    Yld P a l ⟨dd, .indexAddr ty x y, t, pos, af, g⟩ (.pointer (some ⟨blkOf r, k * sz, none⟩)) := by
  unfold Bk at hb
  rw [hb] at hx ⊢
  exact Yld.indexB k hS hx hy hu hi hz hk h1
end
section
variable {P : Program} {ops : Array Oper} {Q : Exit → Act → World → Prop} {fuel : Nat} {a : Act} {w : World} {l0 : List HP} {listed : Array Bool}
theorem dFour {i j m q : Nat} (hr : Region.ready .any ops listed = [i, j, m, q]) (h : wpOp P ops Q i (fun a' w' => Sep l0 w' ∧ wpAnyH P .any ops Q (Sep l0) fuel (listed.setIfInBounds i true) a' w') a w)
    (h' : wpOp P ops Q j (fun a' w' => Sep l0 w' ∧ wpAnyH P .any ops Q (Sep l0) fuel (listed.setIfInBounds j true) a' w') a w)
    (h'' : wpOp P ops Q m (fun a' w' => Sep l0 w' ∧ wpAnyH P .any ops Q (Sep l0) fuel (listed.setIfInBounds m true) a' w') a w)
    (h3 : wpOp P ops Q q (fun a' w' => Sep l0 w' ∧ wpAnyH P .any ops Q (Sep l0) fuel (listed.setIfInBounds q true) a' w') a w) : wpAnyH P .any ops Q (Sep l0) (fuel + 1) listed a w :=
  wpAnyH_all hr (by simp) (by intro z hz; simp at hz; rcases hz with rfl | rfl | rfl | rfl <;> assumption)
end
end Go.Proofs.Ytmcfmhiadlkglaa.Sx
