/-
  My plain texts put together into one module.
-/
import Derived.Test.YthhndmlfgjcgpaaPv
/-
  A flow is found, moved, and taken out: what TableWhole needs of the flows. Nothing of a program stands here.
-/
namespace Go.Proofs.Ythhndmlfgjcgpaa.Sx
open Go
set_option linter.unusedVariables false
set_option linter.unusedSimpArgs false
section
variable {S : Nat} {T : Tb} {ks L R : List Ky}
theorem out_perm (h : TF S 3 T) {f : Fl} (hf : f ∈ T.F) : (T.F.map Fl.k).Perm ((T.out f.s).F.map Fl.k ++ [f.k]) := by
  have h1 := (perm_move h.nds hf).map Fl.k
  rw [List.map_append] at h1
  exact h1
theorem mov_perm (h : TF S 3 T) {f : Fl} (hf : f ∈ T.F) {i : Nat} : (T.F.map Fl.k).Perm ((T.move f i).F.map Fl.k) := by
  have h1 := out_perm h hf
  refine h1.trans ?_
  show List.Perm _ (List.map Fl.k (_ ++ [_]))
  rw [List.map_append]
  exact List.Perm.refl _
theorem WhI.out (h : WhI S T ks) {f : Fl} (hf : f ∈ T.F) (hp : ks.Perm (L ++ [f.k])) : WhI S (T.out f.s) L :=
  ⟨h.tf.out hf, by
    have h1 := ((out_perm h.tf hf).symm.trans h.perm).trans hp
    exact (List.perm_append_right_iff _).1 h1⟩
theorem WhI.move (h : WhI S T ks) {f : Fl} (hf : f ∈ T.F) {i : Nat} (hi : i < 3) : WhI S (T.move f i) ks :=
  ⟨h.tf.move hf hi, (mov_perm h.tf hf).symm.trans h.perm⟩
theorem out_fnd (h : TF S 3 T) {f : Fl} (hf : f ∈ T.F) : fndK (T.out f.s).F f.k = none := by
  rw [fndK_none]
  intro g hg
  have hg2 : g ∈ T.F ∧ g.s ≠ f.s := by
    have h1 := List.mem_filter.1 hg
    exact ⟨h1.1, of_decide_eq_true h1.2⟩
  constructor
  · intro e
    exact hg2.2 (by rw [h.far hg2.1 hf (.inl e)])
  · intro e
    exact hg2.2 (by rw [h.far hg2.1 hf (.inr e)])
theorem out_at (h : TF S 3 T) {f : Fl} (hf : f ∈ T.F) (u : Int) : ¬ (T.out f.s).A.at (f.s : Int) = some u := fun e => by
  obtain ⟨g, hg, q1, _⟩ := ((h.out hf).at' _ _).1 e
  have h1 := List.mem_filter.1 hg
  have h2 : g.s ≠ f.s := of_decide_eq_true h1.2
  exact h2 (by omega)
end
end Go.Proofs.Ythhndmlfgjcgpaa.Sx
