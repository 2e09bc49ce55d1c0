/-
  My plain texts put together into one module.
-/
import Derived.Test.YthhndmlfgjcgpaaPt
/-
  Tables with one flow; full tables. Nothing of a program stands here.
-/
namespace Go.Proofs.Ythhndmlfgjcgpaa.Sx
open Go
set_option linter.unusedVariables false
set_option linter.unusedSimpArgs false
/-- A table of three with one flow. -/
def oneT (o : Ky) : Tb := { F := [⟨0, 0, o, 0⟩], A := (Ar.new 3).take }
section
variable {o : Ky}
theorem one_fnd : fndK (oneT o).F o = some ⟨0, 0, o, 0⟩ := by simp [oneT, fndK]
theorem one_fnd2 : fndK (oneT o).F (trn o) = some ⟨0, 0, o, 0⟩ := by simp [oneT, fndK]
theorem turn_new (h : WfK o) : (addR { F := [], A := Ar.new 3 } 1 o 0 = ((0, 0), 0) ∧ addN { F := [], A := Ar.new 3 } 1 o 0 = oneT o) ∧
    (addR (oneT o) 1 o 0 = ((0, 0), 160) ∧ addN (oneT o) 1 o 0 = oneT o) ∧ (addR (oneT o) 1 (trn o) 0 = ((0, 0), 160) ∧ addN (oneT o) 1 (trn o) 0 = oneT o) := by
  have h1 := addR_new (T := { F := [], A := Ar.new 3 }) (n := 1) (k := o) (i := 0) (s := 0) (fs := [1, 2]) (by omega) rfl rfl
  exact ⟨h1, addR_has (by omega) one_fnd, addR_has (by omega) one_fnd2⟩
theorem turn_find (h : WfK o) : fndV (oneT o).F o = .tuple [vH 0 0, .bool false, .bool true].toArray ∧ fndV (oneT o).F (trn o) = .tuple [vH 0 0, .bool (decide (o ≠ trn o)), .bool true].toArray := by
  rw [fndV_some one_fnd, fndV_some one_fnd2]
  refine ⟨?_, rfl⟩
  simp
end
theorem turn_eq (o : Ky) : (decide (o ≠ trn o) == !decide (o.1 = o.1 ∧ o.2.1 = o.2.2.1 ∧ o.2.2.1 = o.2.1 ∧ o.2.2.2.1 = o.2.2.2.2 ∧ o.2.2.2.2 = o.2.2.2.1)) = true := by
  obtain ⟨a, b, c, d, e⟩ := o
  by_cases h : b = c
  · by_cases h2 : d = e
    · subst h h2; simp [trn]
    · simp [trn, h, h2]
  · simp [trn, h]
end Go.Proofs.Ythhndmlfgjcgpaa.Sx

/-
  Tables in which flows were only put. Nothing of a program stands here.
-/
namespace Go.Proofs.Ythhndmlfgjcgpaa.Sx
open Go
set_option linter.unusedVariables false
set_option linter.unusedSimpArgs false
/-- Flows that were put one after the other, none taken away: their slots are the first ones, in order. -/
structure FilI (S n : Nat) (T : Tb) (ks : List Ky) : Prop where
  tf : TF S n T
  keys : T.F.map Fl.k = ks
  slots : T.F.map Fl.s = List.range ks.length
  turns : ∀ f ∈ T.F, f.u = 0
  free : T.A.free = List.range' ks.length (S - ks.length)
  turn : T.A.turn = List.replicate S 0
  le : ks.length ≤ S
section
variable {S n : Nat} {T : Tb} {ks : List Ky}
theorem FilI.len (h : FilI S n T ks) : T.F.length = ks.length := by rw [← h.keys, List.length_map]
theorem FilI.new (h1 : 1 ≤ S) (h2 : S ≤ 4096) : FilI S n { F := [], A := Ar.new S } [] := by
  refine ⟨(new_TI (n := n) h1 h2).tf, rfl, rfl, by simp, ?_, rfl, Nat.zero_le _⟩
  simp [Ar.new, List.range_eq_range']
theorem FilI.wf (h : FilI S n T ks) : ∀ k ∈ ks, WfK k := fun k hk => by
  rw [← h.keys] at hk
  obtain ⟨f, hf, rfl⟩ := List.mem_map.1 hk
  exact h.tf.wf f hf
theorem FilI.at (h : FilI S n T ks) {m : Nat} (hm : m < ks.length) : ∃ f ∈ T.F, f.s = m ∧ f.u = 0 ∧ f.k = ks[m] ∧ T.F[m]? = some f := by
  have hl := h.len
  have h1 : T.F[m]? = some (T.F[m]'(by omega)) := by simp
  refine ⟨T.F[m]'(by omega), List.getElem_mem _, ?_, h.turns _ (List.getElem_mem _), ?_, h1⟩
  · have h2 := congrArg (fun l => l[m]?) h.slots
    simp only [List.getElem?_map, h1, List.getElem?_range hm, Option.map_some] at h2
    exact Option.some.inj h2
  · have h2 := congrArg (fun l => l[m]?) h.keys
    simp only [List.getElem?_map, h1, List.getElem?_eq_getElem hm, Option.map_some] at h2
    exact Option.some.inj h2
theorem FilI.has (h : FilI S n T ks) {k : Ky} (hk : k ∈ ks) : ∃ f ∈ T.F, f.k = k ∧ f.u = 0 := by
  rw [← h.keys] at hk
  obtain ⟨f, hf, e⟩ := List.mem_map.1 hk
  exact ⟨f, hf, e, h.turns f hf⟩
/-- A flow is put. -/
theorem FilI.step (h : FilI S n T ks) {k : Ky} {i : Nat} (hk : WfK k) (hi : i < n) (hn : fndK T.F k = none) (hl : ks.length < S) :
    addR T n k (i : Int) = (((ks.length : Int), 0), 0) ∧ FilI S n (addN T n k (i : Int)) (ks ++ [k]) := by
  have he : T.A.free = ks.length :: List.range' (ks.length + 1) (S - (ks.length + 1)) := by
    rw [h.free, show S - ks.length = (S - (ks.length + 1)) + 1 from by omega]; rfl
  have hu : T.A.turn[ks.length]?.getD 0 = 0 := by rw [h.turn, List.getElem?_replicate, if_pos hl]; rfl
  obtain ⟨h1, h2⟩ := addR_new hi hn he
  rw [hu] at h1 h2
  refine ⟨h1, ?_⟩
  have htf := h.tf.add he hk hi hn
  rw [hu] at htf
  rw [h2]
  refine ⟨htf, ?_, ?_, ?_, ?_, ?_, ?_⟩
  · rw [List.map_append, h.keys]; rfl
  · rw [List.map_append, h.slots, List.length_append, show ks.length + [k].length = ks.length + 1 from rfl, List.range_succ]; rfl
  · intro f hf
    rcases List.mem_append.1 hf with hf | hf
    · exact h.turns f hf
    · simp only [List.mem_singleton] at hf; subst hf; rfl
  · rw [List.length_append, show ks.length + [k].length = ks.length + 1 from rfl]
    show T.A.take.free = _
    simp [Ar.take, he]
  · show T.A.take.turn = _
    have : T.A.take.turn = T.A.turn := by simp [Ar.take, he]
    rw [this]; exact h.turn
  · rw [List.length_append, show ks.length + [k].length = ks.length + 1 from rfl]; omega
theorem FilI.full (h : FilI S n T ks) {k : Ky} {i : Nat} (hi : i < n) (hn : fndK T.F k = none) (hl : ¬ ks.length < S) : addR T n k (i : Int) = ((0, 0), 4) ∧ addN T n k (i : Int) = T := by
  have := h.le
  refine addR_full (by omega) hn ?_
  rw [h.free, show S - ks.length = 0 from by omega]; rfl
/-- What putting a flow answers, whatever there is. -/
theorem FilI.any (h : FilI S n T ks) {k : Ky} {i : Nat} (hk : WfK k) (hi : i < n) : (addR T n k (i : Int)).2 = 0 ∧ FilI S n (addN T n k (i : Int)) (ks ++ [k]) ∨ ((addR T n k (i : Int)).2 = 4 ∨ (addR T n k (i : Int)).2 = 160) ∧ addN T n k (i : Int) = T := by
  cases hf : fndK T.F k with
  | some f =>
    obtain ⟨h1, h2⟩ := addR_has (T := T) (n := n) (k := k) (i := (i : Int)) (by omega) hf
    exact .inr ⟨.inr (by rw [h1]), h2⟩
  | none =>
    by_cases hl : ks.length < S
    · obtain ⟨h1, h2⟩ := h.step hk hi hf hl
      exact .inl ⟨by rw [h1], h2⟩
    · obtain ⟨h1, h2⟩ := h.full hi hf hl
      exact .inr ⟨.inl (by rw [h1]), h2⟩
end
/-! ### a table that is full -/
def fulK (i : Nat) : Ky := (6, (i : Int), 2147483648, 0, 0)
def fulKs (i : Nat) : List Ky := (List.range i).map fulK
def hs0 (i : Nat) : List (Int × Int) := (List.range i).map fun j : Nat => ((j : Int), (0 : Int))
theorem hs0_succ (i : Nat) : hs0 i ++ [((i : Int), 0)] = hs0 (i + 1) := by unfold hs0; rw [List.range_succ, List.map_append]; rfl
theorem hs0_len (i : Nat) : (hs0 i).length = i := by simp [hs0]
theorem hs0_get {i m : Nat} (h : m < (hs0 i).length) : (hs0 i)[m] = ((m : Int), 0) := by simp [hs0]
theorem fulKs_succ (i : Nat) : fulKs i ++ [fulK i] = fulKs (i + 1) := by unfold fulKs; rw [List.range_succ, List.map_append]; rfl
theorem fulKs_len (i : Nat) : (fulKs i).length = i := by simp [fulKs]
theorem fulK_wf {i : Nat} (h : i < 1000) : WfK (fulK i) := by unfold fulK; constructor <;> dsimp only <;> omega
section
variable {S n i : Nat} {T : Tb}
theorem ful_key (h : FilI S n T (fulKs i)) {f : Fl} (hf : f ∈ T.F) : ∃ j, j < i ∧ f.k = fulK j := by
  have h1 : f.k ∈ fulKs i := by rw [← h.keys]; exact List.mem_map.2 ⟨f, hf, rfl⟩
  obtain ⟨j, hj, e⟩ := List.mem_map.1 h1
  exact ⟨j, List.mem_range.1 hj, e.symm⟩
theorem ful_no (h : FilI S n T (fulKs i)) (hi : i < 1000) : fndK T.F (fulK i) = none := by
  rw [fndK_none]
  intro f hf
  obtain ⟨j, hj, e⟩ := ful_key h hf
  rw [e]
  refine ⟨fun e2 => ?_, fun e2 => ?_⟩
  · have := congrArg (fun k : Ky => k.2.1) e2; simp only [fulK] at this; omega
  · have := congrArg (fun k : Ky => k.2.1) e2; simp only [fulK, trn] at this; omega
theorem ful_other (h : FilI S n T (fulKs i)) {k : Ky} (hk : k.1 = 0) : fndK T.F k = none := by
  rw [fndK_none]
  intro f hf
  obtain ⟨j, hj, e⟩ := ful_key h hf
  rw [e]
  refine ⟨fun e2 => ?_, fun e2 => ?_⟩
  · have := congrArg (fun k : Ky => k.1) e2; simp only [fulK] at this; omega
  · have := congrArg (fun k : Ky => k.1) e2; simp only [fulK, trn] at this; omega
/-- One is taken away, and another one put. -/
theorem ful_swap (h : FilI S 1 T (fulKs S)) {m : Nat} (hm : m < S) :
    (outR T (m : Int) 0).2 = 0 ∧ addR (outN T (m : Int) 0) 1 k0 0 = (((m : Int), 1), 0) ∧
    (addN (outN T (m : Int) 0) 1 k0 0).A.at (m : Int) ≠ some 0 ∧ addR (addN (outN T (m : Int) 0) 1 k0 0) 1 (0, 1, 2, 0, 0) 0 = ((0, 0), 4) ∧ addN (addN (outN T (m : Int) 0) 1 k0 0) 1 (0, 1, 2, 0, 0) 0 = addN (outN T (m : Int) 0) 1 k0 0 ∧
    (addN (outN T (m : Int) 0) 1 k0 0).F.length = S := by
  obtain ⟨f, hf, hfs, hfu, hfk, _⟩ := h.at (m := m) (by rw [fulKs_len]; exact hm)
  have hg : getF T.F (m : Int) 0 = some f := (getF_mem h.tf).2 ⟨hf, by omega, hfu⟩
  have ho : outN T (m : Int) 0 = T.out m := by unfold outN; rw [hg, ← hfs]
  have hr : (outR T (m : Int) 0).2 = 0 := by unfold outR; rw [hg]
  have hfree : T.A.free = [] := by rw [h.free, fulKs_len, Nat.sub_self]; rfl
  have htn : T.A.turn[m]?.getD 0 = 0 := by rw [h.turn, List.getElem?_replicate, if_pos hm]; rfl
  have hA : (T.out m).A = T.A.give m := rfl
  have hof : (T.out m).A.free = m :: [] := by rw [hA]; simp [Ar.give, hfree]
  have hou : (T.out m).A.turn[m]?.getD 0 = 1 := by
    rw [hA]; simp only [Ar.give]
    rw [List.getElem?_set_self (by rw [h.tf.size]; exact hm), htn]; rfl
  have hsub : ∀ g ∈ (T.out m).F, g ∈ T.F := fun g hg => (List.mem_filter.1 hg).1
  have hno : ∀ k : Ky, k.1 = 0 → fndK (T.out m).F k = none := fun k hk => by
    rw [fndK_none]
    intro g hg
    exact fndK_none.1 (ful_other h hk) g (hsub g hg)
  obtain ⟨a1, a2⟩ := addR_new (T := T.out m) (n := 1) (k := k0) (i := 0) (by omega) (hno k0 rfl) hof
  rw [hou] at a1 a2
  rw [ho]
  have hlen : (T.out m).F.length + 1 = S := by
    have hp := perm_move h.tf.nds hf
    have h1 := hp.length_eq
    rw [List.length_append, h.len, fulKs_len, hfs] at h1
    exact h1.symm
  have htk1 : ∀ A : Ar, A.free = [m] → A.take.free = [] := fun A h => by simp [Ar.take, h]
  have hcast : ((0 : Nat) : Int) = 0 := rfl
  rw [hcast] at a1 a2
  refine ⟨hr, a1, ?_, ?_, ?_, ?_⟩
  · have htf := (h.tf.out hf).add (s := m) (fs := []) (k := k0) (i := 0) (by rw [hfs]; exact hof) wfk0 (by omega) (by rw [hfs]; exact hno k0 rfl)
    rw [hfs, hou] at htf
    rw [a2, htf.atf (f := ⟨m, 1, k0, 0⟩) (List.mem_append.2 (.inr List.mem_cons_self))]
    simp
  · rw [a2]
    refine (addR_full (by omega) ?_ ?_).1
    · rw [fndK_none]
      intro g hg
      rcases List.mem_append.1 hg with hg | hg
      · exact fndK_none.1 (ful_other h (k := (0, 1, 2, 0, 0)) rfl) g (hsub g hg)
      · simp only [List.mem_singleton] at hg; subst hg; show k0 ≠ _ ∧ trn k0 ≠ _; decide
    · exact htk1 _ hof
  · rw [a2]
    refine (addR_full (by omega) ?_ ?_).2
    · rw [fndK_none]
      intro g hg
      rcases List.mem_append.1 hg with hg | hg
      · exact fndK_none.1 (ful_other h (k := (0, 1, 2, 0, 0)) rfl) g (hsub g hg)
      · simp only [List.mem_singleton] at hg; subst hg; show k0 ≠ _ ∧ trn k0 ≠ _; decide
    · exact htk1 _ hof
  · rw [a2, List.length_append]; exact hlen
end
end Go.Proofs.Ythhndmlfgjcgpaa.Sx
