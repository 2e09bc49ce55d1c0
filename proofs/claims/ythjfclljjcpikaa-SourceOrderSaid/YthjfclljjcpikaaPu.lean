/-
  My plain texts put together into one module.
-/
import Derived.Test.YthjfclljjcpikaaPt
import Derived.Test.YthjfclljjcpikaaPa
import Derived.Test.YthjfclljjcpikaaPb
import Derived.MapKept
import Derived.Maps.RangeRun
import Derived.Laws.IdiomRangeMap
/-
  Tables with one flow; full tables. Nothing of a program stands here.
-/
namespace Go.Proofs.Ythjfclljjcpikaa.Sx
open Go
set_option linter.unusedVariables false
set_option linter.unusedSimpArgs false
/-- A table of three with one flow. -/
def oneT (o : Ky) : Tb := { F := [⟨0, 0, o, 0⟩], A := (Ar.new 3).take }
section
variable {o : Ky}
theorem one_fnd : fndK (oneT o).F o = some ⟨0, 0, o, 0⟩ := by simp [oneT, fndK]
theorem one_fnd2 : fndK (oneT o).F (trn o) = some ⟨0, 0, o, 0⟩ := by simp [oneT, fndK]
theorem turn_new (h : WfK o) : (addR { F := [], A := Ar.new 3 } 1 o 0 = ((0, 0), 0) ∧ addN { F := [], A := Ar.new 3 } 1 o 0 = oneT o) ∧
    (addR (oneT o) 1 o 0 = ((0, 0), 160) ∧ addN (oneT o) 1 o 0 = oneT o) ∧ (addR (oneT o) 1 (trn o) 0 = ((0, 0), 160) ∧ addN (oneT o) 1 (trn o) 0 = oneT o) := by
  have h1 := addR_new (T := { F := [], A := Ar.new 3 }) (n := 1) (k := o) (i := 0) (s := 0) (fs := [1, 2]) (by omega) rfl rfl
  exact ⟨h1, addR_has (by omega) one_fnd, addR_has (by omega) one_fnd2⟩
theorem turn_find (h : WfK o) : fndV (oneT o).F o = .tuple [vH 0 0, .bool false, .bool true].toArray ∧ fndV (oneT o).F (trn o) = .tuple [vH 0 0, .bool (decide (o ≠ trn o)), .bool true].toArray := by
  rw [fndV_some one_fnd, fndV_some one_fnd2]
  refine ⟨?_, rfl⟩
  simp
end
theorem turn_eq (o : Ky) : (decide (o ≠ trn o) == !decide (o.1 = o.1 ∧ o.2.1 = o.2.2.1 ∧ o.2.2.1 = o.2.1 ∧ o.2.2.2.1 = o.2.2.2.2 ∧ o.2.2.2.2 = o.2.2.2.1)) = true := by
  obtain ⟨a, b, c, d, e⟩ := o
  by_cases h : b = c
  · by_cases h2 : d = e
    · subst h h2; simp [trn]
    · simp [trn, h, h2]
  · simp [trn, h]
end Go.Proofs.Ythjfclljjcpikaa.Sx

/-
  Tables in which flows were only put. Nothing of a program stands here.
-/
namespace Go.Proofs.Ythjfclljjcpikaa.Sx
open Go
set_option linter.unusedVariables false
set_option linter.unusedSimpArgs false
/-- Flows that were put one after the other, none taken away: their slots are the first ones, in order. -/
structure FilI (S n : Nat) (T : Tb) (ks : List Ky) : Prop where
  tf : TF S n T
  keys : T.F.map Fl.k = ks
  slots : T.F.map Fl.s = List.range ks.length
  turns : ∀ f ∈ T.F, f.u = 0
  free : T.A.free = List.range' ks.length (S - ks.length)
  turn : T.A.turn = List.replicate S 0
  le : ks.length ≤ S
section
variable {S n : Nat} {T : Tb} {ks : List Ky}
theorem FilI.len (h : FilI S n T ks) : T.F.length = ks.length := by rw [← h.keys, List.length_map]
theorem FilI.new (h1 : 1 ≤ S) (h2 : S ≤ 4096) : FilI S n { F := [], A := Ar.new S } [] := by
  refine ⟨(new_TI (n := n) h1 h2).tf, rfl, rfl, by simp, ?_, rfl, Nat.zero_le _⟩
  simp [Ar.new, List.range_eq_range']
theorem FilI.wf (h : FilI S n T ks) : ∀ k ∈ ks, WfK k := fun k hk => by
  rw [← h.keys] at hk
  obtain ⟨f, hf, rfl⟩ := List.mem_map.1 hk
  exact h.tf.wf f hf
theorem FilI.at (h : FilI S n T ks) {m : Nat} (hm : m < ks.length) : ∃ f ∈ T.F, f.s = m ∧ f.u = 0 ∧ f.k = ks[m] ∧ T.F[m]? = some f := by
  have hl := h.len
  have h1 : T.F[m]? = some (T.F[m]'(by omega)) := by simp
  refine ⟨T.F[m]'(by omega), List.getElem_mem _, ?_, h.turns _ (List.getElem_mem _), ?_, h1⟩
  · have h2 := congrArg (fun l => l[m]?) h.slots
    simp only [List.getElem?_map, h1, List.getElem?_range hm, Option.map_some] at h2
    exact Option.some.inj h2
  · have h2 := congrArg (fun l => l[m]?) h.keys
    simp only [List.getElem?_map, h1, List.getElem?_eq_getElem hm, Option.map_some] at h2
    exact Option.some.inj h2
theorem FilI.has (h : FilI S n T ks) {k : Ky} (hk : k ∈ ks) : ∃ f ∈ T.F, f.k = k ∧ f.u = 0 := by
  rw [← h.keys] at hk
  obtain ⟨f, hf, e⟩ := List.mem_map.1 hk
  exact ⟨f, hf, e, h.turns f hf⟩
/-- A flow is put. -/
theorem FilI.step (h : FilI S n T ks) {k : Ky} {i : Nat} (hk : WfK k) (hi : i < n) (hn : fndK T.F k = none) (hl : ks.length < S) :
    addR T n k (i : Int) = (((ks.length : Int), 0), 0) ∧ FilI S n (addN T n k (i : Int)) (ks ++ [k]) := by
  have he : T.A.free = ks.length :: List.range' (ks.length + 1) (S - (ks.length + 1)) := by
    rw [h.free, show S - ks.length = (S - (ks.length + 1)) + 1 from by omega]; rfl
  have hu : T.A.turn[ks.length]?.getD 0 = 0 := by rw [h.turn, List.getElem?_replicate, if_pos hl]; rfl
  obtain ⟨h1, h2⟩ := addR_new hi hn he
  rw [hu] at h1 h2
  refine ⟨h1, ?_⟩
  have htf := h.tf.add he hk hi hn
  rw [hu] at htf
  rw [h2]
  refine ⟨htf, ?_, ?_, ?_, ?_, ?_, ?_⟩
  · rw [List.map_append, h.keys]; rfl
  · rw [List.map_append, h.slots, List.length_append, show ks.length + [k].length = ks.length + 1 from rfl, List.range_succ]; rfl
  · intro f hf
    rcases List.mem_append.1 hf with hf | hf
    · exact h.turns f hf
    · simp only [List.mem_singleton] at hf; subst hf; rfl
  · rw [List.length_append, show ks.length + [k].length = ks.length + 1 from rfl]
    show T.A.take.free = _
    simp [Ar.take, he]
  · show T.A.take.turn = _
    have : T.A.take.turn = T.A.turn := by simp [Ar.take, he]
    rw [this]; exact h.turn
  · rw [List.length_append, show ks.length + [k].length = ks.length + 1 from rfl]; omega
theorem FilI.full (h : FilI S n T ks) {k : Ky} {i : Nat} (hi : i < n) (hn : fndK T.F k = none) (hl : ¬ ks.length < S) : addR T n k (i : Int) = ((0, 0), 4) ∧ addN T n k (i : Int) = T := by
  have := h.le
  refine addR_full (by omega) hn ?_
  rw [h.free, show S - ks.length = 0 from by omega]; rfl
/-- What putting a flow answers, whatever there is. -/
theorem FilI.any (h : FilI S n T ks) {k : Ky} {i : Nat} (hk : WfK k) (hi : i < n) : (addR T n k (i : Int)).2 = 0 ∧ FilI S n (addN T n k (i : Int)) (ks ++ [k]) ∨ ((addR T n k (i : Int)).2 = 4 ∨ (addR T n k (i : Int)).2 = 160) ∧ addN T n k (i : Int) = T := by
  cases hf : fndK T.F k with
  | some f =>
    obtain ⟨h1, h2⟩ := addR_has (T := T) (n := n) (k := k) (i := (i : Int)) (by omega) hf
    exact .inr ⟨.inr (by rw [h1]), h2⟩
  | none =>
    by_cases hl : ks.length < S
    · obtain ⟨h1, h2⟩ := h.step hk hi hf hl
      exact .inl ⟨by rw [h1], h2⟩
    · obtain ⟨h1, h2⟩ := h.full hi hf hl
      exact .inr ⟨.inl (by rw [h1]), h2⟩
end
/-! ### a table that is full -/
def fulK (i : Nat) : Ky := (6, (i : Int), 2147483648, 0, 0)
def fulKs (i : Nat) : List Ky := (List.range i).map fulK
def hs0 (i : Nat) : List (Int × Int) := (List.range i).map fun j : Nat => ((j : Int), (0 : Int))
theorem hs0_succ (i : Nat) : hs0 i ++ [((i : Int), 0)] = hs0 (i + 1) := by unfold hs0; rw [List.range_succ, List.map_append]; rfl
theorem hs0_len (i : Nat) : (hs0 i).length = i := by simp [hs0]
theorem hs0_get {i m : Nat} (h : m < (hs0 i).length) : (hs0 i)[m] = ((m : Int), 0) := by simp [hs0]
theorem fulKs_succ (i : Nat) : fulKs i ++ [fulK i] = fulKs (i + 1) := by unfold fulKs; rw [List.range_succ, List.map_append]; rfl
theorem fulKs_len (i : Nat) : (fulKs i).length = i := by simp [fulKs]
theorem fulK_wf {i : Nat} (h : i < 1000) : WfK (fulK i) := by unfold fulK; constructor <;> dsimp only <;> omega
section
variable {S n i : Nat} {T : Tb}
theorem ful_key (h : FilI S n T (fulKs i)) {f : Fl} (hf : f ∈ T.F) : ∃ j, j < i ∧ f.k = fulK j := by
  have h1 : f.k ∈ fulKs i := by rw [← h.keys]; exact List.mem_map.2 ⟨f, hf, rfl⟩
  obtain ⟨j, hj, e⟩ := List.mem_map.1 h1
  exact ⟨j, List.mem_range.1 hj, e.symm⟩
theorem ful_no (h : FilI S n T (fulKs i)) (hi : i < 1000) : fndK T.F (fulK i) = none := by
  rw [fndK_none]
  intro f hf
  obtain ⟨j, hj, e⟩ := ful_key h hf
  rw [e]
  refine ⟨fun e2 => ?_, fun e2 => ?_⟩
  · have := congrArg (fun k : Ky => k.2.1) e2; simp only [fulK] at this; omega
  · have := congrArg (fun k : Ky => k.2.1) e2; simp only [fulK, trn] at this; omega
theorem ful_other (h : FilI S n T (fulKs i)) {k : Ky} (hk : k.1 = 0) : fndK T.F k = none := by
  rw [fndK_none]
  intro f hf
  obtain ⟨j, hj, e⟩ := ful_key h hf
  rw [e]
  refine ⟨fun e2 => ?_, fun e2 => ?_⟩
  · have := congrArg (fun k : Ky => k.1) e2; simp only [fulK] at this; omega
  · have := congrArg (fun k : Ky => k.1) e2; simp only [fulK, trn] at this; omega
/-- One is taken away, and another one put. -/
theorem ful_swap (h : FilI S 1 T (fulKs S)) {m : Nat} (hm : m < S) :
    (outR T (m : Int) 0).2 = 0 ∧ addR (outN T (m : Int) 0) 1 k0 0 = (((m : Int), 1), 0) ∧
    (addN (outN T (m : Int) 0) 1 k0 0).A.at (m : Int) ≠ some 0 ∧ addR (addN (outN T (m : Int) 0) 1 k0 0) 1 (0, 1, 2, 0, 0) 0 = ((0, 0), 4) ∧ addN (addN (outN T (m : Int) 0) 1 k0 0) 1 (0, 1, 2, 0, 0) 0 = addN (outN T (m : Int) 0) 1 k0 0 ∧
    (addN (outN T (m : Int) 0) 1 k0 0).F.length = S := by
  obtain ⟨f, hf, hfs, hfu, hfk, _⟩ := h.at (m := m) (by rw [fulKs_len]; exact hm)
  have hg : getF T.F (m : Int) 0 = some f := (getF_mem h.tf).2 ⟨hf, by omega, hfu⟩
  have ho : outN T (m : Int) 0 = T.out m := by unfold outN; rw [hg, ← hfs]
  have hr : (outR T (m : Int) 0).2 = 0 := by unfold outR; rw [hg]
  have hfree : T.A.free = [] := by rw [h.free, fulKs_len, Nat.sub_self]; rfl
  have htn : T.A.turn[m]?.getD 0 = 0 := by rw [h.turn, List.getElem?_replicate, if_pos hm]; rfl
  have hA : (T.out m).A = T.A.give m := rfl
  have hof : (T.out m).A.free = m :: [] := by rw [hA]; simp [Ar.give, hfree]
  have hou : (T.out m).A.turn[m]?.getD 0 = 1 := by
    rw [hA]; simp only [Ar.give]
    rw [List.getElem?_set_self (by rw [h.tf.size]; exact hm), htn]; rfl
  have hsub : ∀ g ∈ (T.out m).F, g ∈ T.F := fun g hg => (List.mem_filter.1 hg).1
  have hno : ∀ k : Ky, k.1 = 0 → fndK (T.out m).F k = none := fun k hk => by
    rw [fndK_none]
    intro g hg
    exact fndK_none.1 (ful_other h hk) g (hsub g hg)
  obtain ⟨a1, a2⟩ := addR_new (T := T.out m) (n := 1) (k := k0) (i := 0) (by omega) (hno k0 rfl) hof
  rw [hou] at a1 a2
  rw [ho]
  have hlen : (T.out m).F.length + 1 = S := by
    have hp := perm_move h.tf.nds hf
    have h1 := hp.length_eq
    rw [List.length_append, h.len, fulKs_len, hfs] at h1
    exact h1.symm
  have htk1 : ∀ A : Ar, A.free = [m] → A.take.free = [] := fun A h => by simp [Ar.take, h]
  have hcast : ((0 : Nat) : Int) = 0 := rfl
  rw [hcast] at a1 a2
  refine ⟨hr, a1, ?_, ?_, ?_, ?_⟩
  · have htf := (h.tf.out hf).add (s := m) (fs := []) (k := k0) (i := 0) (by rw [hfs]; exact hof) wfk0 (by omega) (by rw [hfs]; exact hno k0 rfl)
    rw [hfs, hou] at htf
    rw [a2, htf.atf (f := ⟨m, 1, k0, 0⟩) (List.mem_append.2 (.inr List.mem_cons_self))]
    simp
  · rw [a2]
    refine (addR_full (by omega) ?_ ?_).1
    · rw [fndK_none]
      intro g hg
      rcases List.mem_append.1 hg with hg | hg
      · exact fndK_none.1 (ful_other h (k := (0, 1, 2, 0, 0)) rfl) g (hsub g hg)
      · simp only [List.mem_singleton] at hg; subst hg; show k0 ≠ _ ∧ trn k0 ≠ _; decide
    · exact htk1 _ hof
  · rw [a2]
    refine (addR_full (by omega) ?_ ?_).2
    · rw [fndK_none]
      intro g hg
      rcases List.mem_append.1 hg with hg | hg
      · exact fndK_none.1 (ful_other h (k := (0, 1, 2, 0, 0)) rfl) g (hsub g hg)
      · simp only [List.mem_singleton] at hg; subst hg; show k0 ≠ _ ∧ trn k0 ≠ _; decide
    · exact htk1 _ hof
  · rw [a2, List.length_append]; exact hlen
end
end Go.Proofs.Ythjfclljjcpikaa.Sx

/-
  Lists of lists of records: rows in an array or a slice, each with memory of its own; drawn regions with a last operation, beside what is left out. Nothing of a program stands here.
-/
namespace Go.Proofs.Ythjfclljjcpikaa.Sx
open Go
set_option linter.unusedVariables false
/-- A row: where it stands, how much room it has, its records. -/
abbrev RowG (α : Type) := (Option Addr × Nat) × List α
def eRG {α : Type} (y : RowG α) : List Value := [.slice y.1.1 y.2.length y.1.2]
section
variable {α : Type} {enc : α → List Value} {sz : Nat} {TI : TypeId} {ys zs : List (RowG α)} {y y' : RowG α} {i : Nat} {l l' : List HP} {w : World}
def rowG (TI : TypeId) (sz : Nat) (enc : α → List Value) (y : RowG α) : HP := sls y.1.1 y.2.length y.1.2 TI sz (y.2.flatMap enc)
def rowsG (TI : TypeId) (sz : Nat) (enc : α → List Value) (ys : List (RowG α)) : HP := stars (ys.map (rowG TI sz enc))
theorem Sep.rowsGNil (h : Sep l w) : Sep (rowsG TI sz enc [] :: l) w := Sep.packL [] h
theorem rowsG_app {σ : Sig} {h : PH} : rowsG TI sz enc (ys ++ zs) σ h ↔ star (rowsG TI sz enc ys) (rowsG TI sz enc zs) σ h := by
  unfold rowsG
  rw [List.map_append]
  exact stars_app _ _ _ _
theorem Sep.rowsGSplit (h : Sep (rowsG TI sz enc (ys ++ zs) :: l) w) : Sep (rowsG TI sz enc ys :: rowsG TI sz enc zs :: l) w := (h.conv fun σ h s => rowsG_app.1 s).split
theorem Sep.rowsGJoin (h : Sep (rowsG TI sz enc ys :: rowsG TI sz enc zs :: l) w) : Sep (rowsG TI sz enc (ys ++ zs) :: l) w := (Sep.join h).conv fun σ h s => rowsG_app.2 s
theorem Sep.rowsGCons (h : Sep (rowsG TI sz enc (y :: ys) :: l) w) : Sep (rowG TI sz enc y :: rowsG TI sz enc ys :: l) w := Sep.split h
theorem Sep.rowsGConsI (h : Sep (rowG TI sz enc y :: rowsG TI sz enc ys :: l) w) : Sep (rowsG TI sz enc (y :: ys) :: l) w := Sep.join h
theorem Sep.rowGAt (h : Sep (rowsG TI sz enc ys :: l) w) (hi : ys[i]? = some y) : Sep (sls y.1.1 y.2.length y.1.2 TI sz (y.2.flatMap enc) :: rowsG TI sz enc (ys.take i ++ ys.drop (i + 1)) :: l) w := by
  obtain ⟨hlt, he⟩ := List.getElem?_eq_some_iff.1 hi
  have e : ys = ys.take i ++ y :: ys.drop (i + 1) := by rw [← he, ← List.drop_eq_getElem_cons hlt, List.take_append_drop]
  rw [e] at h
  have h1 := h.rowsGSplit.swap.rowsGCons
  have h2 : Sep (rowsG TI sz enc (ys.take i) :: rowsG TI sz enc (ys.drop (i + 1)) :: rowG TI sz enc y :: l) w := h1.sub (Ex.take (.there (.there .here)) (Ex.take (.there .here) Ex.refl))
  exact h2.rowsGJoin.swap
theorem Sep.rowGSet {r' : Option Addr} {m' c' : Nat} {xs : List α} (h : Sep (sls r' m' c' TI sz (xs.flatMap enc) :: rowsG TI sz enc (ys.take i ++ ys.drop (i + 1)) :: l) w) (hm : m' = xs.length) (hi : i < ys.length) : Sep (rowsG TI sz enc (ys.set i ((r', c'), xs)) :: l) w := by
  subst hm
  rw [List.set_eq_take_append_cons_drop, if_pos hi]
  have h0 : Sep (rowG TI sz enc ((r', c'), xs) :: rowsG TI sz enc (ys.take i ++ ys.drop (i + 1)) :: l) w := h
  have h1 := h0.swap.rowsGSplit
  have h2 : Sep (rowG TI sz enc ((r', c'), xs) :: rowsG TI sz enc (ys.drop (i + 1)) :: rowsG TI sz enc (ys.take i) :: l) w := h1.sub (Ex.take (.there (.there .here)) (Ex.take (.there .here) Ex.refl))
  exact h2.rowsGConsI.swap.rowsGJoin
theorem Sep.rowsGNew {n : Nat} (h : Sep l w) : Sep (rowsG TI sz enc (List.replicate n (((none, 0), []) : RowG α)) :: l) w := by
  induction n with
  | zero => exact h.rowsGNil
  | succ n ih =>
    have h1 : Sep (rowG TI sz enc (((none, 0), []) : RowG α) :: rowsG TI sz enc (List.replicate n (((none, 0), []) : RowG α)) :: l) w := ih.slsNil
    exact h1.rowsGConsI
/-- A record in a row. -/
theorem Rds.rowG {k : Nat} (p : Pk (Sx.rowsG TI sz enc ys) l l') (hm : ∀ x, (enc x).length = sz) (hi : ys[i]? = some y) (hk : k < y.2.length) : Rds l (blkOf y.1.1) (k * sz) (enc y.2[k]) := by
  intro w hw
  exact Rds.rec (r := y.1.1) (m := y.2.length) (cap := y.1.2) (T := TI) (xs := y.2) .here hm hk w ((hw.pk p).rowGAt hi)
theorem XC.rowG {P : Program} (p : Pk (Sx.rowsG TI sz enc ys) l l') (hi : ys[i]? = some y) : XC P l sz (.slice y.1.1 y.2.length y.1.2) y.2.length (y.2.flatMap enc) := fun w hw =>
  XC.all (r := y.1.1) (m := y.2.length) (cap := y.1.2) (T := TI) .here w ((hw.pk p).rowGAt hi)
end
section
variable {P : Program} {Q : Exit → Act → World → Prop} {n : Nat} {a : Act} {S : Slots} {l l' l0 : List HP} {w : World} {t : TypeId} {pos : String} {af : Array Edge} {g : Option (Nat × Bool)} {K : Act → World → Prop} {T : TypeId} {α : Type}
/-- A row's head is stored. -/
theorem BstoreG {ty : TypeId} {x y : Operand} {b k m c : Nat} {r : Option Addr} {z : TypeInfo} {ys : List (RowG α)} {xs : List α} (hS : Has n a S) (hR : Sep l w) (hx : ev S x = some (.pointer (some ⟨b, k, none⟩))) (hy : ev S y = some (.slice r m c))
    (hi : P.info? ty = some z) (hz : z.size = 1) (p : Pk (Sx.blk b (ys.flatMap eRG) T) l l') (hk : k < ys.length) (hm : m = xs.length)
    (kk : ∀ w', Sep (Sx.blk b ((ys.set k ((r, c), xs)).flatMap eRG) T :: l') w' → K a w') : Oper.wp P ⟨none, .store ty x y, t, pos, af, g⟩ a w K Q := by
  have hm1 : ∀ x : RowG α, (eRG x).length = 1 := fun _ => rfl
  have hl : (ys.flatMap eRG).length = ys.length := by rw [flat_len hm1, Nat.mul_one]
  subst hm
  refine Bstore (vs := [.slice r xs.length c]) hS hR hx hy rfl hi (by rw [hz]; rfl) p rfl (by rw [hl]; exact hk) fun w' h => kk w' ?_
  have e := laid_flat (enc := eRG (α := α)) (m := 1) hm1 (vs := [.slice r xs.length c]) (j := 0) (r' := ((r, c), xs)) (rs := ys) (k := k) hk (Nat.le_of_ble_eq_true rfl) rfl
  rw [Nat.mul_one, Nat.add_zero] at e
  rw [← e]; exact h
theorem drawnL2 {ops : Array Oper} {id : Nat} (m : Nat) (hm : P.follows .mixedOrders = true) (hR : Sep l w) (ex : Ex l l0)
    (h : ∀ w, Sep l w → Sep l0 w → wpAnyL P .any ops Q (Sep l0) m ops.size (Array.replicate ops.size false) a w) : (Code.region id ops true).wp P Q a w :=
  wp_region_any hm (wpAny_of_L _ _ _ _ (h _ hR.drewN (hR.drewN.sub ex)))
end
end Go.Proofs.Ythjfclljjcpikaa.Sx

/-
  A flow that is moved: all lists before and after. Nothing of a program stands here.
-/
namespace Go.Proofs.Ythjfclljjcpikaa.Sx
open Go
set_option linter.unusedVariables false
set_option linter.unusedSimpArgs false
abbrev Hd := Int × Int
/-- The handles of a list but one. -/
def butF (l : List Hd) (p : Hd) : List Hd := l.filter fun q => decide (q ≠ p)
theorem butF_yes {l : List Hd} {p : Hd} {i : Nat} (hi : i < l.length) (h : l[i] ≠ p) : butF (l.take (i + 1)) p = butF (l.take i) p ++ [l[i]] := by
  unfold butF; rw [List.take_succ_eq_append_getElem hi, List.filter_append, List.filter_cons, if_pos (decide_eq_true h), List.filter_nil]
theorem butF_no {l : List Hd} {p : Hd} {i : Nat} (hi : i < l.length) (h : ¬ l[i] ≠ p) : butF (l.take (i + 1)) p = butF (l.take i) p := by
  unfold butF; rw [List.take_succ_eq_append_getElem hi, List.filter_append, List.filter_cons, if_neg (by simpa using h), List.filter_nil, List.append_nil]
theorem butF_len {l : List Hd} {p : Hd} {i : Nat} : (butF (l.take i) p).length ≤ l.length := Nat.le_trans (List.length_filter_le _ _) (by rw [List.length_take]; omega)
section
variable {S n : Nat} {T : Tb}
theorem hd_ne (h : TF S n T) {f g : Fl} (hf : f ∈ T.F) (hg : g ∈ T.F) : hd2 g ≠ hd2 f ↔ g.s ≠ f.s := by
  constructor
  · intro e e2; exact e (by rw [h.one hg hf e2])
  · intro e e2; exact e (by have := congrArg Prod.fst e2; simp only [hd2] at this; omega)
theorem inF_move (h : TF S n T) {f : Fl} (hf : f ∈ T.F) {i : Nat} (j : Int) : (inF (T.move f i).F j).map hd2 = butF ((inF T.F j).map hd2) (hd2 f) ++ (if (i : Int) = j then [hd2 f] else []) := by
  show (List.filter _ ((T.F.filter fun g : Fl => decide (g.s ≠ f.s)) ++ [({ f with i := i } : Fl)])).map hd2 = _
  rw [List.filter_append, List.map_append]
  congr 1
  · unfold butF inF
    rw [List.filter_map, List.filter_filter, List.filter_filter]
    congr 1
    refine List.filter_congr fun g hg => ?_
    have := hd_ne h hf hg
    simp only [Function.comp]
    rw [Bool.and_comm]
    congr 1
    exact decide_eq_decide.2 this.symm
  · rw [List.filter_cons, List.filter_nil]
    by_cases e : (i : Int) = j
    · simp [e]
    · simp [e]
theorem move_mem {f : Fl} {i : Nat} : ({ f with i := i } : Fl) ∈ (T.move f i).F := List.mem_append.2 (.inr List.mem_cons_self)
end
/-- Rows that hold what a function says. -/
structure RowsAre (m : Nat) (ys : List (RowG Hd)) (R : Nat → List Hd) : Prop where
  len : ys.length = m
  at' : ∀ j, j < m → ∃ r c, ys[j]? = some ((r, c), R j)
theorem RowsAre.new {m : Nat} : RowsAre m (List.replicate m (((none, 0), []) : RowG Hd)) (fun _ => []) := ⟨by simp, fun j hj => ⟨none, 0, by rw [List.getElem?_replicate, if_pos hj]⟩⟩
theorem RowsAre.set {m k : Nat} {ys : List (RowG Hd)} {R : Nat → List Hd} (h : RowsAre m ys R) (hk : k < m) {r : Option Addr} {c : Nat} {M : List Hd} : RowsAre m (ys.set k ((r, c), M)) (upd R k M) := by
  refine ⟨by rw [List.length_set]; exact h.len, fun j hj => ?_⟩
  by_cases e : j = k
  · subst e
    exact ⟨r, c, by rw [List.getElem?_set_self (by rw [h.len]; exact hj), upd_eq]⟩
  · rw [List.getElem?_set_ne (fun e2 => e e2.symm), upd_ne e]
    exact h.at' j hj
theorem RowsAre.ext {m : Nat} {ys : List (RowG Hd)} {R R' : Nat → List Hd} (h : RowsAre m ys R) (e : ∀ j, j < m → R j = R' j) : RowsAre m ys R' := ⟨h.len, fun j hj => by rw [← e j hj]; exact h.at' j hj⟩
theorem Yld.monoL {P : Program} {a : Act} {l l' : List HP} {o : Oper} {v : Value} (hm : ∀ w, Sep l w → Sep l' w) (h : Yld P a l' o v) : Yld P a l o v := fun w hw => h w (hm w hw)
theorem butF_le {l : List Hd} {p : Hd} : (butF l p).length ≤ l.length := List.length_filter_le _ _
end Go.Proofs.Ythjfclljjcpikaa.Sx

/-
  Maps from 32 bit numbers to integers, in memory, and a range over one, in whatever order. Nothing of a program stands here.
-/
namespace Go.Proofs.Ythjfclljjcpikaa.Sx
open Go Go.ChangeMaps
set_option linter.unusedVariables false
set_option linter.unusedSimpArgs false
abbrev MI := List (Int × Int)
abbrev kvU (M : MI) : List (Value × Value) := M.map fun x => (.int .u32 x.1, .int .i64 x.2)
structure MU (M : MI) (es : List MapEntry) (c : Nat) : Prop where
  kv : es.map (fun e => (e.key, e.val)) = kvU M
  nd : (es.map (·.born)).Nodup
  lt : ∀ e ∈ es, e.born < c
  kd : (M.map Prod.fst).Nodup
theorem inj_of_nodup {α β : Type} {g : α → β} : ∀ {l : List α}, (l.map g).Nodup → ∀ {a b : α}, a ∈ l → b ∈ l → g a = g b → a = b
  | [], _, _, _, h, _, _ => by simp at h
  | x :: t, hn, a, b, ha, hb, e => by
    rw [List.map_cons, List.nodup_cons] at hn
    rcases List.mem_cons.1 ha with h1 | h1 <;> rcases List.mem_cons.1 hb with h2 | h2
    · rw [h1, h2]
    · exact absurd (List.mem_map.2 ⟨b, h2, by rw [← e, h1]⟩) hn.1
    · exact absurd (List.mem_map.2 ⟨a, h1, by rw [e, h2]⟩) hn.1
    · exact inj_of_nodup hn.2 h1 h2 e
theorem nodup_inj_map {α β : Type} {g : α → β} : ∀ {l : List α}, l.Nodup → (∀ a b, g a = g b → a = b) → (l.map g).Nodup
  | [], _, _ => by simp
  | x :: t, hn, h => by
    rw [List.nodup_cons] at hn
    rw [List.map_cons, List.nodup_cons]
    refine ⟨fun hm => ?_, nodup_inj_map hn.2 h⟩
    obtain ⟨y, hy, e⟩ := List.mem_map.1 hm
    exact hn.1 (h _ _ e ▸ hy)
theorem MU.key_inj {M : MI} {es : List MapEntry} {c : Nat} (h : MU M es c) {e e' : MapEntry} (he : e ∈ es) (he' : e' ∈ es) (hk : e.key = e'.key) : e = e' := by
  have h1 : es.map (·.key) = (M.map Prod.fst).map fun k => (.int .u32 k : Value) := by
    have := congrArg (List.map Prod.fst) h.kv
    rw [List.map_map, List.map_map] at this
    rw [List.map_map]; exact this
  have h2 : (es.map (·.key)).Nodup := by
    rw [h1]
    exact nodup_inj_map h.kd fun a b e => by cases e; rfl
  exact inj_of_nodup h2 he he' hk
def mapU (b : Nat) (M : MI) : HP := box (fun x : List MapEntry × Nat => MU M x.1 x.2) (fun x => [pt b (.map x.1.toArray x.2)])
def fndU (k : Int) : MI → Nat → Option (Nat × Int)
  | [], _ => none
  | e :: M, i => if e.1 = k then some (i, e.2) else fndU k M (i + 1)
def valU (M : MI) (k : Int) : Int := ((fndU k M 0).map (·.2)).getD 0
def setU (k v : Int) : MI → MI
  | [] => [(k, v)]
  | e :: M => if e.1 = k then (k, v) :: M else e :: setU k v M
theorem findNow_U {k : Int} : ∀ {es : List MapEntry} {M : MI} {i : Nat}, es.map (fun e => (e.key, e.val)) = kvU M →
    Instr.findNow (.int .u32) (.int .u32 k) es i = some ((fndU k M i).map fun x => (x.1, .int .i64 x.2))
  | [], [], i, _ => rfl
  | [], _ :: _, i, e => by simp at e
  | _ :: _, [], i, e => by simp at e
  | x :: es, y :: M, i, e => by
    simp only [List.map_cons, List.cons.injEq, Prod.mk.injEq] at e
    obtain ⟨⟨e1, e2⟩, e3⟩ := e
    have ih := findNow_U (k := k) (i := i + 1) e3
    unfold Instr.findNow fndU
    rw [e1]
    by_cases h : y.1 = k
    · rw [if_pos h]
      have h1 : Instr.sameNow (.int .u32) (.int .u32 k) (.int .u32 y.1) = some true := by simp [Instr.sameNow, h]
      rw [h1, e2]; rfl
    · rw [if_neg h]
      have h1 : Instr.sameNow (.int .u32) (.int .u32 k) (.int .u32 y.1) = some false := by simp [Instr.sameNow]; exact fun x => h x.symm
      rw [h1]; exact ih
theorem fndU_shift {k : Int} : ∀ {M : MI} {i : Nat}, fndU k M (i + 1) = (fndU k M i).map fun x => (x.1 + 1, x.2)
  | [], _ => rfl
  | e :: M, i => by
    unfold fndU
    by_cases h : e.1 = k
    · simp [h]
    · rw [if_neg h, if_neg h]; exact fndU_shift
theorem modify_map {α β : Type} (f : α → β) (g : α → α) (h : ∀ x, f (g x) = f x) : ∀ (l : List α) (i : Nat), (l.modify i g).map f = l.map f
  | [], i => by simp
  | x :: l, 0 => by simp [List.modify_cons, h]
  | x :: l, i + 1 => by simp [List.modify_cons, modify_map f g h l i]
theorem upd_kv {k v : Int} : ∀ {es : List MapEntry} {M : MI} {j : Nat} {u : Int}, es.map (fun e => (e.key, e.val)) = kvU M → fndU k M 0 = some (j, u) →
    (es.modify j fun e => { e with key := .int .u32 k, val := .int .i64 v }).map (fun e => (e.key, e.val)) = kvU (setU k v M)
  | [], [], j, u, _, h => by simp [fndU] at h
  | [], _ :: _, j, u, e, _ => by simp at e
  | _ :: _, [], j, u, e, _ => by simp at e
  | x :: es, y :: M, j, u, e, h => by
    simp only [List.map_cons, List.cons.injEq, Prod.mk.injEq] at e
    obtain ⟨⟨e1, e2⟩, e3⟩ := e
    unfold fndU at h
    unfold setU
    by_cases hk : y.1 = k
    · rw [if_pos hk] at h
      cases h
      rw [if_pos hk]
      simp [List.modify_cons, e3]
    · rw [if_neg hk] at h
      rw [if_neg hk]
      rw [fndU_shift] at h
      obtain ⟨p, hp, hq⟩ := Option.map_eq_some_iff.1 h
      obtain ⟨j', u'⟩ := p
      simp only [Prod.mk.injEq] at hq
      obtain ⟨rfl, rfl⟩ := hq
      have ih := upd_kv (k := k) (v := v) e3 hp
      simp only [List.modify_cons, List.map_cons]
      simp only [Nat.add_one_ne_zero, if_false, Nat.add_sub_cancel, List.map_cons, e1, e2]
      exact congrArg _ ih
theorem setU_new {k v : Int} : ∀ {M : MI}, fndU k M 0 = none → setU k v M = M ++ [(k, v)]
  | [], _ => rfl
  | e :: M, h => by
    unfold fndU at h
    unfold setU
    by_cases hk : e.1 = k
    · rw [if_pos hk] at h; cases h
    · rw [if_neg hk, fndU_shift] at h
      rw [if_neg hk, setU_new (by simpa using h)]; rfl
theorem setU_keys {k v : Int} : ∀ {M : MI} {x : Int}, x ∈ (setU k v M).map Prod.fst ↔ x = k ∨ x ∈ M.map Prod.fst
  | [], x => by simp [setU]
  | e :: M, x => by
    unfold setU
    by_cases h : e.1 = k
    · rw [if_pos h]
      simp only [List.map_cons, List.mem_cons, h]
      constructor
      · rintro (h | h)
        · exact .inl h
        · exact .inr (.inr h)
      · rintro (h | h | h)
        · exact .inl h
        · exact .inl h
        · exact .inr h
    · rw [if_neg h]
      simp only [List.map_cons, List.mem_cons, setU_keys]
      constructor
      · rintro (h | h | h)
        · exact .inr (.inl h)
        · exact .inl h
        · exact .inr (.inr h)
      · rintro (h | h | h)
        · exact .inr (.inl h)
        · exact .inl h
        · exact .inr (.inr h)
theorem setU_nd {k v : Int} : ∀ {M : MI}, (M.map Prod.fst).Nodup → ((setU k v M).map Prod.fst).Nodup
  | [], _ => by simp [setU]
  | e :: M, hn => by
    rw [List.map_cons, List.nodup_cons] at hn
    unfold setU
    by_cases h : e.1 = k
    · rw [if_pos h, List.map_cons, List.nodup_cons, ← h]; exact hn
    · rw [if_neg h, List.map_cons, List.nodup_cons]
      refine ⟨fun hm => ?_, setU_nd hn.2⟩
      rcases setU_keys.1 hm with h1 | h1
      · exact h h1
      · exact hn.1 h1
section
variable {P : Program} {n d : Nat} {a : Act} {S : Slots} {l l' : List HP} {w : World} {t : TypeId} {pos : String} {af : Array Edge} {g : Option (Nat × Bool)} {K : Act → World → Prop} {Q : Exit → Act → World → Prop}
theorem BmakeU {xt : TypeId} (hS : Has n a S) (hR : Sep l w) (hd : d < n) (k : ∀ a' w' b, Has n a' ((d, .map (some b)) :: S) → Sep (mapU b [] :: l) w' → K a' w') :
    Oper.wp P ⟨some d, .makeMap xt none, t, pos, af, g⟩ a w K Q := by
  have hr : (execOp a.eval ⟨some d, .makeMap xt none, t, pos, af, g⟩).run P w = .ok (.value (.map (some w.heap.size))) (w.alloc (.map #[] 0)) := by
    simp [execOp, Instr.makeMap]
  unfold Oper.wp
  rw [hr]
  exact k _ _ _ (hS.put d _ hd) (Sep.boxI ([], 0) ⟨rfl, by simp, by simp, by simp⟩ (hR.new _))
theorem chkU {TK : TypeId} (h : P.underlying TK = some (.int .u32)) (em : Bool) (k : Int) (w : World) : (Instr.checkKey em 10000 TK (.int .u32 k)).run P w = .ok () w := by
  unfold Instr.checkKey
  simp [run_underlying h]
theorem Yld.lookupU {x y : Operand} {xt TK TV : TypeId} {b : Nat} {k : Int} {M : MI} (hS : Has n a S) (hT : P.underlying TK = some (.int .u32)) (hx : ev S x = some (.map (some b))) (hy : ev S y = some (.int .u32 k))
    (hu : P.underlying xt = some (.map TK TV)) (hz : ∀ w, (zeroValue TV).run P w = .ok (.int .i64 0) w) (p : Pk (mapU b M) l l') :
    Yld P a l ⟨some d, .lookup xt x y false, t, pos, af, g⟩ (.int .i64 (valU M k)) := by
  intro w hw
  obtain ⟨⟨es, c⟩, hC, hR⟩ := (hw.pk p).boxE
  have hg := MapKept.run_getObj_map (P := P) hR.read
  have hk := MapKept.run_findKey (P := P) (w := w) hT (findNow_U (k := k) (i := 0) hC.kv)
  simp only [execOp, hS.ev hx, hS.ev hy, Instr.lookup, Sem.run_bind, run_underlying hu, Result.andThen_ok, hg, Sem.run_pure, chkU hT, hk]
  unfold valU
  cases fndU k M 0 <;> simp [hz]
theorem BupdateU {x y z : Operand} {xt TK TV : TypeId} {b : Nat} {k v : Int} {M : MI} (hS : Has n a S) (hR : Sep l w) (hT : P.underlying TK = some (.int .u32)) (hx : ev S x = some (.map (some b))) (hy : ev S y = some (.int .u32 k)) (hz : ev S z = some (.int .i64 v))
    (hu : P.underlying xt = some (.map TK TV)) (p : Pk (mapU b M) l l')
    (kk : ∀ w', Sep (mapU b (setU k v M) :: l') w' → K a w') :
    Oper.wp P ⟨none, .mapUpdate xt x y z, t, pos, af, g⟩ a w K Q := by
  obtain ⟨⟨es, c⟩, hC, hB⟩ := (hR.pk p).boxE
  have hb := hB.read
  have hg := MapKept.run_getObj_map (P := P) hb
  have hk := MapKept.run_findKey (P := P) (w := w) hT (findNow_U (k := k) (i := 0) hC.kv)
  have key : ∃ es' c', MU (setU k v M) es' c' ∧ (execOp a.eval ⟨none, .mapUpdate xt x y z, t, pos, af, g⟩).run P w = .ok .skip { w with heap := w.heap.setIfInBounds b (.map es'.toArray c') } := by
    cases hf : fndU k M 0 with
    | none =>
      rw [hf] at hk
      refine ⟨es ++ [({ key := .int .u32 k, val := .int .i64 v, born := c } : MapEntry)], c + 1, ⟨?_, ?_, ?_, setU_nd hC.kd⟩, ?_⟩
      · rw [setU_new hf, List.map_append, hC.kv, kvU, kvU, List.map_append]; rfl
      · rw [List.map_append, List.nodup_append]
        refine ⟨hC.nd, by simp, fun x hx y hy e => ?_⟩
        simp only [List.map_cons, List.map_nil, List.mem_singleton] at hy
        obtain ⟨q, hq, h9⟩ := List.mem_map.1 hx
        have := hC.lt q hq
        omega
      · intro e he
        rcases List.mem_append.1 he with h | h
        · have := hC.lt e h; omega
        · simp only [List.mem_singleton] at h; subst h; exact Nat.lt_succ_self _
      · have hs := MapKept.run_setObj_map (P := P) (.map (es.toArray.push { key := .int .u32 k, val := .int .i64 v, born := c }) (c + 1)) hb
        have e0 : es.toArray.push { key := .int .u32 k, val := .int .i64 v, born := c } = (es ++ [({ key := .int .u32 k, val := .int .i64 v, born := c } : MapEntry)]).toArray := by simp
        rw [← e0]
        simp only [execOp, hS.ev hx, hS.ev hy, hS.ev hz, Instr.mapUpdate, Sem.run_bind, run_underlying hu, Result.andThen_ok, hg, Sem.run_pure, chkU hT, hk, Option.map_none, hs]
    | some q =>
      obtain ⟨j, u⟩ := q
      rw [hf] at hk
      have h1 := upd_kv (v := v) hC.kv hf
      have hbn : (es.modify j fun e => { e with key := .int .u32 k, val := .int .i64 v }).map (·.born) = es.map (·.born) := modify_map (fun e : MapEntry => e.born) (fun e : MapEntry => { e with key := .int .u32 k, val := .int .i64 v }) (fun _ => rfl) es j
      refine ⟨es.modify j fun e => { e with key := .int .u32 k, val := .int .i64 v }, c, ⟨h1, by rw [hbn]; exact hC.nd, fun e he => ?_, setU_nd hC.kd⟩, ?_⟩
      · have h2 : e.born ∈ es.map (·.born) := by rw [← hbn]; exact List.mem_map.2 ⟨e, he, rfl⟩
        obtain ⟨e', he', h3⟩ := List.mem_map.1 h2
        have := hC.lt e' he'
        dsimp only at *
        omega
      · have hold : ((es.toArray[j]?).map (·.key)).getD (.int .u32 k) = .int .u32 k := by
          have h2 : ∀ {es : List MapEntry} {M : MI} {j : Nat} {u : Int}, es.map (fun e => (e.key, e.val)) = kvU M → fndU k M 0 = some (j, u) → (es[j]?).map (·.key) = some (.int .u32 k) := by
            intro es M
            induction es generalizing M with
            | nil =>
              intro j u e h
              cases M with
              | nil => simp [fndU] at h
              | cons y M => simp at e
            | cons x es ih =>
              intro j u e h
              cases M with
              | nil => simp at e
              | cons y M =>
                simp only [List.map_cons, List.cons.injEq, Prod.mk.injEq] at e
                unfold fndU at h
                by_cases hy : y.1 = k
                · rw [if_pos hy] at h; cases h
                  simp [e.1.1, hy]
                · rw [if_neg hy, fndU_shift] at h
                  obtain ⟨p, hp, hq⟩ := Option.map_eq_some_iff.1 h
                  obtain ⟨j', u'⟩ := p
                  simp only [Prod.mk.injEq] at hq
                  obtain ⟨rfl, rfl⟩ := hq
                  simpa using ih e.2 hp
          have h3 := h2 hC.kv hf
          rw [List.getElem?_toArray, h3]; rfl
        have hkeep : (Instr.keyThatStays (((es.toArray[j]?).map (·.key)).getD (.int .u32 k)) (.int .u32 k)).run P w = .ok (.int .u32 k) w := by
          rw [hold]
          have : Instr.sameBits 10000 (.int .u32 k) (.int .u32 k) = true := by simp [Instr.sameBits]
          simp [Instr.keyThatStays, this]
        have e0 : es.toArray.modify j (fun e => { e with key := .int .u32 k, val := .int .i64 v }) = (es.modify j fun e => { e with key := .int .u32 k, val := .int .i64 v }).toArray := by simp
        have hs := MapKept.run_setObj_map (P := P) (.map (es.toArray.modify j (fun e => { e with key := .int .u32 k, val := .int .i64 v })) c) hb
        rw [← e0]
        simp only [execOp, hS.ev hx, hS.ev hy, hS.ev hz, Instr.mapUpdate, Sem.run_bind, run_underlying hu, Result.andThen_ok, hg, Sem.run_pure, chkU hT, hk, Option.map_some, hkeep, hs]
  obtain ⟨es', c', hC', hr⟩ := key
  unfold Oper.wp
  rw [hr]
  have h2 := MapKept.heap_set (o' := Obj.map es'.toArray c') hb
  have := hB.upd (o' := .map es'.toArray c') (w' := { w with heap := w.heap.setIfInBounds b (.map es'.toArray c') }) h2.1 (fun c' h => h2.2 c' h) rfl rfl
  exact kk _ (Sep.boxI ((es', c') : List MapEntry × Nat) hC' this)
/-! ### a range under way: which keys came -/
structure RU (M : MI) (D : List Int) (last : Option (Int × Int)) (es : List MapEntry) (c since : Nat) (seen : Array Nat) (c0 : Nat) : Prop where
  mu : MU M es c
  hold : ∀ e ∈ es, e.born < since
  s0 : since ≤ c0
  sc : since ≤ c
  sn : ∀ e ∈ es, ∀ k, e.key = .int .u32 k → (seen.contains e.born = true ↔ k ∈ D)
  nd : D.Nodup
  sub : ∀ k ∈ D, ∃ v, (k, v) ∈ M
  last : ∀ k v, last = some (k, v) → (k, v) ∈ M ∧ ∃ e ∈ es, e.key = .int .u32 k ∧ e.val = .int .i64 v ∧ c0 = c ∧ ∃ s : Array Nat, seen = s.push e.born
structure RX where
  es : List MapEntry
  c : Nat
  since : Nat
  seen : Array Nat
  c0 : Nat
def rngU (b r : Nat) (M : MI) (D : List Int) (last : Option (Int × Int)) : HP :=
  box (fun x : RX => RU M D last x.es x.c x.since x.seen x.c0) (fun x => [pt b (.map x.es.toArray x.c), pt r (.mapIter (some b) x.since x.seen x.c0)])
theorem BrangeU {x : Operand} {xt TK TV : TypeId} {b : Nat} {M : MI} (hS : Has n a S) (hR : Sep l w) (hx : ev S x = some (.map (some b))) (hu : P.underlying xt = some (.map TK TV)) (p : Pk (mapU b M) l l') (hd : d < n)
    (kk : ∀ a' w' r, Has n a' ((d, .pointer (some ⟨r, 0, none⟩)) :: S) → Sep (rngU b r M [] none :: l') w' → K a' w') :
    Oper.wp P ⟨some d, .range xt x, t, pos, af, g⟩ a w K Q := by
  obtain ⟨⟨es, c⟩, hC, hB⟩ := (hR.pk p).boxE
  have hb := hB.read
  have hr : (execOp a.eval ⟨some d, .range xt x, t, pos, af, g⟩).run P w = .ok (.value (.pointer (some ⟨w.heap.size, 0, none⟩))) (w.alloc (.mapIter (some b) c #[] c)) := by
    simp [execOp, hS.ev hx, run_range_map w xt TK TV b es.toArray c hu hb]
  unfold Oper.wp
  rw [hr]
  have h1 := hB.new (.mapIter (some b) c #[] c)
  refine kk _ _ _ (hS.put d _ hd) (Sep.boxI (⟨es, c, c, #[], c⟩ : RX) ⟨hC, hC.lt, Nat.le_refl _, Nat.le_refl _, ?_, by simp, by simp, by simp⟩ h1.swap)
  intro e _ k _
  simp
theorem BnextU {x : Operand} {b r : Nat} {M : MI} {D : List Int} {last : Option (Int × Int)} (hS : Has n a S) (hR : Sep l w) (hx : ev S x = some (.pointer (some ⟨r, 0, none⟩))) (p : Pk (rngU b r M D last) l l') (hd : d < n)
    (k0 : ∀ a' w', (∀ e ∈ M, e.1 ∈ D) → Has n a' ((d, .tuple #[.bool false]) :: S) → Sep (rngU b r M D last :: l') w' → K a' w')
    (k1 : ∀ a' w' k v, (k, v) ∈ M → k ∉ D → D.Nodup ∧ (∀ x ∈ D, ∃ y, (x, y) ∈ M) → Has n a' ((d, .tuple #[.bool true, .int .u32 k, .int .i64 v]) :: S) → Sep (rngU b r M (D ++ [k]) (some (k, v)) :: l') w' → K a' w') :
    Oper.wp P ⟨some d, .next x false, t, pos, af, g⟩ a w K Q := by
  obtain ⟨⟨es, c, since, seen, c0⟩, hU, hB⟩ := (hR.pk p).boxE
  dsimp only [List.cons_append, List.nil_append] at hU hB
  have hb := hB.read
  have hr := hB.swap.read
  have hkey : ∀ e ∈ es, ∃ k v, e.key = .int .u32 k ∧ e.val = .int .i64 v ∧ (k, v) ∈ M := fun e he => by
    have h1 : (e.key, e.val) ∈ kvU M := by rw [← hU.mu.kv]; exact List.mem_map.2 ⟨e, he, rfl⟩
    obtain ⟨q, hq, h2⟩ := List.mem_map.1 h1
    simp only [Prod.mk.injEq] at h2
    exact ⟨q.1, q.2, h2.1.symm, h2.2.symm, hq⟩
  have hof : ∀ q ∈ M, ∃ e ∈ es, e.key = .int .u32 q.1 ∧ e.val = .int .i64 q.2 := fun q hq => by
    have h1 : ((.int .u32 q.1 : Value), (.int .i64 q.2 : Value)) ∈ es.map (fun e => (e.key, e.val)) := by rw [hU.mu.kv]; exact List.mem_map.2 ⟨q, hq, rfl⟩
    obtain ⟨e, he, h2⟩ := List.mem_map.1 h1
    simp only [Prod.mk.injEq] at h2
    exact ⟨e, he, h2.1, h2.2⟩
  rcases run_next_at (P := P) w t r b since c0 seen es.toArray c hr hb (by simpa using hU.hold) hU.s0 with ⟨h0, hrun⟩ | ⟨e, he, w1, hw1, hrun⟩
  · have hx' : (execOp a.eval ⟨some d, .next x false, t, pos, af, g⟩).run P w = .ok (.value (.tuple #[.bool false])) w := by
      simp [execOp, hS.ev hx, hrun]
    unfold Oper.wp
    rw [hx']
    refine k0 _ _ (fun q hq => ?_) (hS.put d _ hd) (Sep.boxI (⟨es, c, since, seen, c0⟩ : RX) hU hB)
    obtain ⟨e, he, h1, h2⟩ := hof q hq
    exact (hU.sn e he q.1 h1).1 (all_seen es.toArray seen h0 e (by simpa using he))
  · obtain ⟨hem, hes⟩ := mem_left he
    have hem' : e ∈ es := by simpa using hem
    obtain ⟨k, v, hk, hv, hm⟩ := hkey e hem'
    have hx' : (execOp a.eval ⟨some d, .next x false, t, pos, af, g⟩).run P w = .ok (.value (.tuple #[.bool true, .int .u32 k, .int .i64 v])) (setBlock w1 r (.mapIter (some b) since (seen.push e.born) c)) := by
      simp [execOp, hS.ev hx, hrun, hk, hv]
    unfold Oper.wp
    rw [hx']
    have hB1 : Sep (pt b (.map es.toArray c) :: pt r (.mapIter (some b) since seen c0) :: l') w1 := by
      rcases hw1 with rfl | rfl
      · exact hB
      · exact hB.drew
    have hr1 := hB1.swap.read
    have hset := MapKept.heap_set (o' := Obj.mapIter (some b) since (seen.push e.born) c) hr1
    have h3 := hB1.swap.upd (o' := .mapIter (some b) since (seen.push e.born) c) (w' := setBlock w1 r (.mapIter (some b) since (seen.push e.born) c)) hset.1 (fun c' h => hset.2 c' h) rfl rfl
    have hkD : k ∉ D := fun h => by
      have := (hU.sn e hem' k hk).2 h
      rw [hes] at this; cases this
    refine k1 _ _ k v hm hkD ⟨hU.nd, hU.sub⟩ (hS.put d _ hd) (Sep.boxI (⟨es, c, since, seen.push e.born, c⟩ : RX) ⟨hU.mu, hU.hold, hU.sc, hU.sc, ?_, ?_, ?_, ?_⟩ h3.swap)
    · intro e' he' k' hk'
      have h4 := hU.sn e' he' k' hk'
      rw [List.mem_append, List.mem_singleton, ← h4]
      by_cases hbe : e'.born = e.born
      · have hee : e' = e := inj_of_nodup hU.mu.nd he' hem' hbe
        subst hee
        rw [hk] at hk'
        cases hk'
        simp
      · have hne : k' ≠ k := fun e9 => by
          subst e9
          exact absurd (congrArg MapEntry.born (hU.mu.key_inj he' hem' (hk'.trans hk.symm))) hbe
        simp [hbe, hne]
    · rw [List.nodup_append]
      exact ⟨hU.nd, by simp, fun x hx y hy e9 => by simp only [List.mem_singleton] at hy; subst hy; exact hkD (e9 ▸ hx)⟩
    · intro x hx
      rcases List.mem_append.1 hx with h | h
      · exact hU.sub x h
      · simp only [List.mem_singleton] at h; subst h; exact ⟨v, hm⟩
    · intro k' v' h
      cases h
      exact ⟨hm, e, hem', hk, hv, rfl, seen, rfl⟩
theorem Yld.entryU {x : Operand} {b r : Nat} {M : MI} {D : List Int} {k v : Int} (hS : Has n a S) (hx : ev S x = some (.pointer (some ⟨r, 0, none⟩))) (p : Pk (rngU b r M D (some (k, v))) l l') :
    Yld P a l ⟨some d, .entry x, t, pos, af, g⟩ (.tuple #[.int .u32 k, .int .i64 v]) := by
  intro w hw
  obtain ⟨⟨es, c, since, seen, c0⟩, hU, hB⟩ := (hw.pk p).boxE
  dsimp only [List.cons_append, List.nil_append] at hU hB
  obtain ⟨_, e, he, hk, hv, rfl, s, rfl⟩ := hU.last k v rfl
  have h1 := run_entry_at (P := P) w r b since s es.toArray c0 e hB.swap.read hB.read (by simpa using he) (by simpa using hU.mu.nd)
  simp [execOp, hS.ev hx, h1, hk, hv]
end
end Go.Proofs.Ythjfclljjcpikaa.Sx
