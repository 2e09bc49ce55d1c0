/-
  My plain texts put together into one module.
-/
import Derived.Test.YthhndmlfgjcgpaaZPx
namespace Go.Proofs.Ythhndmlfgjcgpaa.Sx
open Go
set_option linter.unusedVariables false
set_option linter.unusedSimpArgs false
def ownH (T : Tb) (kd s u : Int) : Int × Int := if kd % 2 = 0 then (match T.A.at s with | some v => (s, v) | none => (s, u)) else (s, u)
def actT (T : Tb) (n : Nat) (kd s u : Int) (k : Ky) (i : Int) : Tb :=
  if kd / 2 % 4 ≤ 1 then addN T n k i else if kd / 2 % 4 = 2 then outN T (ownH T kd s u).1 (ownH T kd s u).2 else movN T n (ownH T kd s u).1 (ownH T kd s u).2 i
section
variable {S n : Nat} {T : Tb} {kd s u i v : Int} {k : Ky} {p : Int × Int}
theorem own_odd (h : ¬ kd % 2 = 0) : ownH T kd s u = (s, u) := if_neg h
theorem own_at (h : kd % 2 = 0) (e : T.A.at s = some v) : ownH T kd s u = (s, v) := by unfold ownH; rw [if_pos h, e]
theorem own_no (h : kd % 2 = 0) (e : T.A.at s = none) : ownH T kd s u = (s, u) := by unfold ownH; rw [if_pos h, e]
theorem actT_add (h : kd / 2 % 4 = 0 ∨ kd / 2 % 4 = 1) : actT T n kd s u k i = addN T n k i := if_pos (by omega)
theorem actT_out (h : kd / 2 % 4 = 2) (e : ownH T kd s u = p) : actT T n kd s u k i = outN T p.1 p.2 := by
  unfold actT; rw [if_neg (by omega), if_pos h, e]
theorem actT_mov (h : ¬ kd / 2 % 4 = 0) (h1 : ¬ kd / 2 % 4 = 1) (h2 : ¬ kd / 2 % 4 = 2) (hk : 0 ≤ kd) (e : ownH T kd s u = p) : actT T n kd s u k i = movN T n p.1 p.2 i := by
  unfold actT; rw [if_neg (by omega), if_neg h2, e]
theorem TF.actT (h : TF S n T) (hk : WfK k) : TF S n (Sx.actT T n kd s u k i) := by
  unfold Sx.actT
  split
  · exact h.addN hk
  · split
    · exact h.outN _ _
    · exact h.movN _ _ _
theorem inF_nil_of (h : (inF T.F i).head? = none) : inF T.F i = [] := List.head?_eq_none_iff.1 h
end
abbrev At9 := Int × Ky × Int × Int × Int
abbrev eA9 (a : At9) : List Value := [.int .u8 a.1, .int .u8 a.2.1.1, .int .u32 a.2.1.2.1, .int .u32 a.2.1.2.2.1, .int .u16 a.2.1.2.2.2.1, .int .u16 a.2.1.2.2.2.2, .int .i64 a.2.2.1, .int .i64 a.2.2.2.1, .int .i64 a.2.2.2.2]
structure Ok9 (a : At9) : Prop where
  kd : 0 ≤ a.1 ∧ a.1 ≤ 255
  k : WfK a.2.1
section
variable {P : Program} {md : Region.Mode} {ops : Array Oper} {Q : Exit → Act → World → Prop} {S S' : World → Prop}
theorem wpAnyH_mono (e : ∀ w, S' w → S w) : ∀ (fuel : Nat) (listed : Array Bool) (a : Act) (w : World), wpAnyH P md ops Q S' fuel listed a w → wpAnyH P md ops Q S fuel listed a w
  | 0, _, _, _, h => h
  | fuel + 1, _, _, _, h => ⟨h.1, fun i hi => wpOp_mono (fun a' w' h' => ⟨e _ h'.1, wpAnyH_mono e fuel _ a' w' h'.2⟩) (h.2 i hi)⟩
theorem strongH {l l0 : List HP} {fuel : Nat} {listed : Array Bool} {a : Act} {w : World} (hR : Sep l w) (e : Ex l l0) (k : Sep l w → wpAnyH P md ops Q (Sep l) fuel listed a w) : wpAnyH P md ops Q (Sep l0) fuel listed a w :=
  wpAnyH_mono (fun w h => h.sub e) _ _ _ _ (k hR)
end
end Go.Proofs.Ythhndmlfgjcgpaa.Sx
