/-
  What rings of nodes say of lists, and how it changes: plain laws. Nothing of a program stands here.
-/
import Derived.Test.YtojeibjlkbffcaaLk
namespace Go.Proofs.Ytojeibjlkbffcaa.Sx
open Go
set_option linter.unusedVariables false
set_option linter.unusedSimpArgs false
structure LW (S n : Nat) (L : Nat → List Nat) (P : Nat → Nat → Nat) (R : Nat → Int) (rg nm sz : Nat → Nat) : Prop where
  s1 : 1 ≤ S
  s2 : S ≤ 8192
  n1 : 1 ≤ n
  n2 : n ≤ 4096
  hrg : ∀ i, i < n → rg i < n
  hnm : ∀ i, i < n → nm (rg i) = i
  hsz : ∀ i, i < n → sz (rg i) = (L i).length
  nd : ∀ i, i < n → (L i).Nodup
  lt : ∀ i, i < n → ∀ x ∈ L i, x < S
  rin : ∀ i, i < n → ∀ x ∈ L i, R x = rg i
  rout : ∀ x, x < S → (∀ i, i < n → x ∉ L i) → R x = -1
  ring : ∀ i, i < n → Ring P (S + rg i) (L i)
section
variable {S n : Nat} {L : Nat → List Nat} {P : Nat → Nat → Nat} {R : Nat → Int} {rg nm sz : Nat → Nat}
theorem LW.inj (h : LW S n L P R rg nm sz) {i j : Nat} (hi : i < n) (hj : j < n) (e : rg i = rg j) : i = j := by
  rw [← h.hnm i hi, ← h.hnm j hj, e]
theorem LW.dj (h : LW S n L P R rg nm sz) {i j x : Nat} (hi : i < n) (hj : j < n) (hx : x ∈ L i) (hy : x ∈ L j) : i = j := by
  have h1 := h.rin i hi x hx
  rw [h.rin j hj x hy] at h1
  exact h.inj hi hj (by omega)
theorem LW.cyc (h : LW S n L P R rg nm sz) {i : Nat} (hi : i < n) : ((S + rg i) :: L i).Nodup :=
  List.nodup_cons.2 ⟨fun hm => by have := h.lt i hi _ hm; omega, h.nd i hi⟩
theorem LW.sep (h : LW S n L P R rg nm sz) {i j x : Nat} (hi : i < n) (hj : j < n) (hx : x ∈ (S + rg i) :: L i) (hy : x ∈ (S + rg j) :: L j) : i = j := by
  rcases List.mem_cons.1 hx with hx | hx <;> rcases List.mem_cons.1 hy with hy | hy
  · exact h.inj hi hj (by omega)
  · have := h.lt j hj x hy; omega
  · have := h.lt i hi x hx; omega
  · exact h.dj hi hj hx hy
theorem LW.len (h : LW S n L P R rg nm sz) {i : Nat} (hi : i < n) : (L i).length ≤ S := nodup_len (h.nd i hi) fun x hx => h.lt i hi x hx
def ofL (n : Nat) (L : Nat → List Nat) (x : Nat) : Option Nat := (List.range n).find? fun i => decide (x ∈ L i)
theorem ofL_none {x : Nat} : ofL n L x = none ↔ ∀ i, i < n → x ∉ L i := by
  unfold ofL
  rw [List.find?_eq_none]
  simp
theorem ofL_mem {x i : Nat} (h : ofL n L x = some i) : i < n ∧ x ∈ L i := by
  have h1 := List.find?_some h
  have h2 := List.mem_of_find?_eq_some h
  exact ⟨List.mem_range.1 h2, of_decide_eq_true h1⟩
theorem LW.ofL (h : LW S n L P R rg nm sz) {x i : Nat} (hi : i < n) (hx : x ∈ L i) : ofL n L x = some i := by
  cases e : Sx.ofL n L x with
  | none => exact absurd hx (ofL_none.1 e i hi)
  | some j => rw [h.dj (ofL_mem e).1 hi (ofL_mem e).2 hx]
theorem LW.cases (h : LW S n L P R rg nm sz) {x : Nat} (hx : x < S) : (R x = -1 ∧ Sx.ofL n L x = none ∧ ∀ i, i < n → x ∉ L i) ∨ (∃ i, i < n ∧ x ∈ L i ∧ R x = rg i ∧ Sx.ofL n L x = some i) := by
  cases e : Sx.ofL n L x with
  | none => exact .inl ⟨h.rout x hx (ofL_none.1 e), rfl, ofL_none.1 e⟩
  | some j => exact .inr ⟨j, (ofL_mem e).1, (ofL_mem e).2, h.rin j (ofL_mem e).1 x (ofL_mem e).2, rfl⟩
theorem LW.hasR (h : LW S n L P R rg nm sz) {x : Nat} (hx : x < S) (hh : (Sx.ofL n L x).isSome = true) : ∃ i, i < n ∧ x ∈ L i ∧ R x = rg i ∧ Sx.ofL n L x = some i := by
  rcases h.cases hx with ⟨_, h2, _⟩ | h2
  · rw [h2] at hh; cases hh
  · exact h2
theorem LW.noR (h : LW S n L P R rg nm sz) {x : Nat} (hx : x < S) (hh : ¬ (Sx.ofL n L x).isSome = true) : R x = -1 ∧ Sx.ofL n L x = none ∧ ∀ i, i < n → x ∉ L i := by
  rcases h.cases hx with h2 | ⟨i, _, _, _, h2⟩
  · exact h2
  · rw [h2] at hh; exact absurd rfl hh
theorem upd_cases {α : Type} {f : Nat → α} {i j : Nat} {v : α} : (j = i ∧ upd f i v j = v) ∨ (j ≠ i ∧ upd f i v j = f j) := by
  by_cases e : j = i
  · exact .inl ⟨e, by rw [e, upd_eq]⟩
  · exact .inr ⟨e, upd_ne e⟩
theorem LW.add (h : LW S n L P R rg nm sz) {i s w : Nat} (hw : w < 2) (hi : i < n) (hs : s < S) (hno : ∀ j, j < n → s ∉ L j) :
    LW S n (upd L i (addL w (L i) s)) (putP P w (S + rg i) s) (upd R s (rg i)) rg nm (upd sz (rg i) (sz (rg i) + 1)) where
  s1 := h.s1
  s2 := h.s2
  n1 := h.n1
  n2 := h.n2
  hrg := h.hrg
  hnm := h.hnm
  hsz j hj := by
    rcases upd_cases (f := L) (i := i) (j := j) (v := addL w (L i) s) with ⟨e, e1⟩ | ⟨e, e1⟩ <;> rw [e1]
    · rw [e, upd_eq, addL_len, h.hsz i hi]
    · rw [upd_ne fun e2 => e (h.inj hj hi e2), h.hsz j hj]
  nd j hj := by
    rcases upd_cases (f := L) (i := i) (j := j) (v := addL w (L i) s) with ⟨e, e1⟩ | ⟨e, e1⟩ <;> rw [e1]
    · exact addL_nodup (h.nd i hi) (hno i hi)
    · exact h.nd j hj
  lt j hj x hx := by
    rcases upd_cases (f := L) (i := i) (j := j) (v := addL w (L i) s) with ⟨e, e1⟩ | ⟨e, e1⟩ <;> rw [e1] at hx
    · rcases addL_mem.1 hx with rfl | hx
      · exact hs
      · exact h.lt i hi x hx
    · exact h.lt j hj x hx
  rin j hj x hx := by
    rcases upd_cases (f := L) (i := i) (j := j) (v := addL w (L i) s) with ⟨e, e1⟩ | ⟨e, e1⟩ <;> rw [e1] at hx
    · rcases addL_mem.1 hx with rfl | hx
      · rw [upd_eq, e]
      · rw [upd_ne fun e2 => hno i hi (by rw [← e2]; exact hx), h.rin i hi x hx, e]
    · rw [upd_ne fun e2 => hno j hj (by rw [← e2]; exact hx), h.rin j hj x hx]
  rout x hx hno2 := by
    have hxs : x ≠ s := fun e => hno2 i hi (by rw [upd_eq, addL_mem]; exact .inl e)
    rw [upd_ne hxs]
    refine h.rout x hx fun j hj hm => hno2 j hj ?_
    rcases upd_cases (f := L) (i := i) (j := j) (v := addL w (L i) s) with ⟨e, e1⟩ | ⟨e, e1⟩ <;> rw [e1]
    · rw [e] at hm; exact addL_mem.2 (.inr hm)
    · exact hm
  ring j hj := by
    have hse : s ∉ (S + rg i) :: L i := by
      simp only [List.mem_cons, not_or]
      exact ⟨by omega, hno i hi⟩
    rcases upd_cases (f := L) (i := i) (j := j) (v := addL w (L i) s) with ⟨e, e1⟩ | ⟨e, e1⟩ <;> rw [e1]
    · rw [e]; exact (h.ring i hi).add hw (h.cyc hi) hse
    · refine (h.ring j hj).congr fun d x hd hx => (putP_ne ?_ ?_ ?_).symm
      · rintro rfl
        rcases List.mem_cons.1 hx with hx | hx
        · omega
        · exact hno j hj hx
      · rintro rfl
        exact e (h.sep hj hi hx List.mem_cons_self)
      · intro e2
        rw [e2] at hx
        exact e (h.sep hj hi hx ((h.ring i hi).mem hw List.mem_cons_self))
theorem erase_split {l : List Nat} {s : Nat} (hn : l.Nodup) (hs : s ∈ l) : ∃ l1 l2, l = l1 ++ s :: l2 ∧ l.erase s = l1 ++ l2 := by
  obtain ⟨l1, l2, e⟩ := List.append_of_mem hs
  refine ⟨l1, l2, e, ?_⟩
  subst e
  have h1 : s ∉ l1 := fun hm => by
    rw [List.nodup_append] at hn
    exact hn.2.2 s hm s List.mem_cons_self rfl
  rw [List.erase_append_right _ h1, List.erase_cons_head]
theorem LW.out (h : LW S n L P R rg nm sz) {i s : Nat} (hi : i < n) (hs : s ∈ L i) :
    LW S n (upd L i ((L i).erase s)) (outP P s) (upd R s (-1)) rg nm (upd sz (rg i) (sz (rg i) - 1)) where
  s1 := h.s1
  s2 := h.s2
  n1 := h.n1
  n2 := h.n2
  hrg := h.hrg
  hnm := h.hnm
  hsz j hj := by
    rcases upd_cases (f := L) (i := i) (j := j) (v := (L i).erase s) with ⟨e, e1⟩ | ⟨e, e1⟩ <;> rw [e1]
    · rw [e, upd_eq, List.length_erase_of_mem hs, h.hsz i hi]
    · rw [upd_ne fun e2 => e (h.inj hj hi e2), h.hsz j hj]
  nd j hj := by
    rcases upd_cases (f := L) (i := i) (j := j) (v := (L i).erase s) with ⟨e, e1⟩ | ⟨e, e1⟩ <;> rw [e1]
    · exact (h.nd i hi).erase s
    · exact h.nd j hj
  lt j hj x hx := by
    rcases upd_cases (f := L) (i := i) (j := j) (v := (L i).erase s) with ⟨e, e1⟩ | ⟨e, e1⟩ <;> rw [e1] at hx
    · exact h.lt i hi x (List.mem_of_mem_erase hx)
    · exact h.lt j hj x hx
  rin j hj x hx := by
    rcases upd_cases (f := L) (i := i) (j := j) (v := (L i).erase s) with ⟨e, e1⟩ | ⟨e, e1⟩ <;> rw [e1] at hx
    · rw [upd_ne fun e2 => ((h.nd i hi).mem_erase_iff.1 hx).1 e2, h.rin i hi x (List.mem_of_mem_erase hx), e]
    · rw [upd_ne fun e2 => e (h.dj hj hi (by rw [← e2]; exact hx) hs), h.rin j hj x hx]
  rout x hx hno2 := by
    by_cases hxs : x = s
    · rw [hxs, upd_eq]
    · rw [upd_ne hxs]
      refine h.rout x hx fun j hj hm => hno2 j hj ?_
      rcases upd_cases (f := L) (i := i) (j := j) (v := (L i).erase s) with ⟨e, e1⟩ | ⟨e, e1⟩ <;> rw [e1]
      · rw [e] at hm; exact (List.mem_erase_of_ne hxs).2 hm
      · exact hm
  ring j hj := by
    rcases upd_cases (f := L) (i := i) (j := j) (v := (L i).erase s) with ⟨e, e1⟩ | ⟨e, e1⟩ <;> rw [e1]
    · rw [e]
      have h1 := h.ring i hi
      have h2 := h.cyc hi
      obtain ⟨l1, l2, h3, h4⟩ := erase_split (h.nd i hi) hs
      rw [h3] at h1 h2
      rw [h4]
      exact h1.out h2
    · have hsm : s ∈ (S + rg i) :: L i := List.mem_cons_of_mem _ hs
      refine (h.ring j hj).congr fun d x hd hx => (outP_ne ?_ ?_).symm
      · intro e2
        rw [e2] at hx
        exact e (h.sep hj hi hx ((h.ring i hi).mem (by omega) hsm))
      · intro e2
        rw [e2] at hx
        exact e (h.sep hj hi hx ((h.ring i hi).mem (by omega) hsm))
theorem LW.swap (h : LW S n L P R rg nm sz) {i j : Nat} (hi : i < n) (hj : j < n) (hij : i ≠ j) :
    LW S n (upd (upd L i (L j)) j (L i)) P R (upd (upd rg i (rg j)) j (rg i)) (upd (upd nm (rg j) i) (rg i) j) sz := by
  have hr : rg i ≠ rg j := fun e => hij (h.inj hi hj e)
  have key : ∀ k, k < n → ∃ k', k' < n ∧ upd (upd L i (L j)) j (L i) k = L k' ∧ upd (upd rg i (rg j)) j (rg i) k = rg k' ∧ upd (upd nm (rg j) i) (rg i) j (rg k') = k := by
    intro k hk
    by_cases e1 : k = j
    · subst e1; exact ⟨i, hi, by rw [upd_eq], by rw [upd_eq], by rw [upd_eq]⟩
    · by_cases e2 : k = i
      · subst e2; exact ⟨j, hj, by rw [upd_ne e1, upd_eq], by rw [upd_ne e1, upd_eq], by rw [upd_ne (Ne.symm hr), upd_eq]⟩
      · exact ⟨k, hk, by rw [upd_ne e1, upd_ne e2], by rw [upd_ne e1, upd_ne e2], by rw [upd_ne fun e => e2 (h.inj hk hi e), upd_ne fun e => e1 (h.inj hk hj e), h.hnm k hk]⟩
  have back : ∀ k, k < n → ∃ k', k' < n ∧ upd (upd L i (L j)) j (L i) k' = L k := by
    intro k hk
    by_cases e1 : k = i
    · exact ⟨j, hj, by rw [upd_eq, e1]⟩
    · by_cases e2 : k = j
      · exact ⟨i, hi, by rw [upd_ne hij, upd_eq, e2]⟩
      · exact ⟨k, hk, by rw [upd_ne e2, upd_ne e1]⟩
  refine ⟨h.s1, h.s2, h.n1, h.n2, ?_, ?_, ?_, ?_, ?_, ?_, ?_, ?_⟩
  · intro k hk; obtain ⟨k', a, b, c, d⟩ := key k hk; rw [c]; exact h.hrg k' a
  · intro k hk; obtain ⟨k', a, b, c, d⟩ := key k hk; rw [c, d]
  · intro k hk; obtain ⟨k', a, b, c, d⟩ := key k hk; rw [c, b]; exact h.hsz k' a
  · intro k hk; obtain ⟨k', a, b, c, d⟩ := key k hk; rw [b]; exact h.nd k' a
  · intro k hk x hx; obtain ⟨k', a, b, c, d⟩ := key k hk; rw [b] at hx; exact h.lt k' a x hx
  · intro k hk x hx; obtain ⟨k', a, b, c, d⟩ := key k hk; rw [b] at hx; rw [c]; exact h.rin k' a x hx
  · intro x hx hno
    refine h.rout x hx fun k hk hm => ?_
    obtain ⟨k', a, b⟩ := back k hk
    exact hno k' a (by rw [b]; exact hm)
  · intro k hk; obtain ⟨k', a, b, c, d⟩ := key k hk; rw [b, c]; exact h.ring k' a
/-! ### from a ring to its list -/
def dirL (w : Nat) (l : List Nat) : List Nat := if w = 0 then l else l.reverse
theorem dirL_len {w : Nat} {l : List Nat} : (dirL w l).length = l.length := by unfold dirL; split <;> simp
theorem dirL_dir {w : Nat} {l : List Nat} : dirL w (dirL w l) = l := by unfold dirL; split <;> simp
theorem dirL_nodup {w : Nat} {l : List Nat} (h : l.Nodup) : (dirL w l).Nodup := by
  unfold dirL; split
  · exact h
  · exact nodup_rev h
theorem dirL_mem {w x : Nat} {l : List Nat} : x ∈ dirL w l ↔ x ∈ l := by unfold dirL; split <;> simp
theorem Ring.walk {e w : Nat} {l : List Nat} (h : Ring P e l) (hw : w < 2) {i x y : Nat} (h1 : (e :: (dirL w l ++ [e]))[i]? = some x) (h2 : (e :: (dirL w l ++ [e]))[i + 1]? = some y) : P w x = y := by
  obtain rfl | rfl : w = 0 ∨ w = 1 := by omega
  · exact (Ch.at h h1 h2).1
  · have h3 : Ch (flp P) (e :: (l.reverse ++ [e])) := h.flip
    exact (Ch.at h3 h1 h2).1
/-- The first step, and one on the way. -/
theorem Ring.first {e w : Nat} {l : List Nat} (h : Ring P e l) (hw : w < 2) : P w e = (dirL w l).headD e := by
  cases e1 : dirL w l with
  | nil => exact h.walk hw (i := 0) rfl (by rw [e1]; rfl)
  | cons x t => exact h.walk hw (i := 0) rfl (by rw [e1]; rfl)
theorem Ring.next {e w i : Nat} {l : List Nat} (h : Ring P e l) (hw : w < 2) (hi : i < (dirL w l).length) : P w ((dirL w l)[i]) = (dirL w l)[i + 1]?.getD e := by
  refine h.walk hw (i := i + 1) ?_ ?_
  · rw [List.getElem?_cons_succ, List.getElem?_append_left hi, List.getElem?_eq_getElem hi]
  · rw [List.getElem?_cons_succ]
    by_cases h2 : i + 1 < (dirL w l).length
    · rw [List.getElem?_append_left h2, List.getElem?_eq_getElem h2]; rfl
    · rw [List.getElem?_append_right (by omega), List.getElem?_eq_none (l := dirL w l) (by omega), show i + 1 - (dirL w l).length = 0 from by omega]; rfl
theorem Ring.step {e w i : Nat} {l : List Nat} (h : Ring P e l) (hw : w < 2) (hi : i < (dirL w l).length) : P w ((dirL w l)[i]?.getD e) = (dirL w l)[i + 1]?.getD e := by
  rw [← h.next hw hi, List.getElem?_eq_getElem hi]; rfl
theorem Ring.step0 {e w : Nat} {l : List Nat} (h : Ring P e l) (hw : w < 2) : P w e = (dirL w l)[0]?.getD e := by
  rw [h.first hw]; cases dirL w l <;> rfl
theorem LW.bnd (h : LW S n L P R rg nm sz) {i x d : Nat} (hd : d < 2) (hi : i < n) (hx : x ∈ (S + rg i) :: L i) : P d x < S + n := by
  have h1 := h.hrg i hi
  rcases List.mem_cons.1 ((h.ring i hi).mem hd hx) with h2 | h2
  · omega
  · have := h.lt i hi _ h2; omega
theorem LW.seqB (h : LW S n L P R rg nm sz) {i w k : Nat} (hi : i < n) : (dirL w (L i))[k]?.getD (S + rg i) ∈ (S + rg i) :: L i := by
  by_cases hk : k < (dirL w (L i)).length
  · rw [List.getElem?_eq_getElem hk]
    exact List.mem_cons_of_mem _ (dirL_mem.1 (List.getElem_mem hk))
  · rw [List.getElem?_eq_none (by omega)]; exact List.mem_cons_self
theorem LW.seqE (h : LW S n L P R rg nm sz) {i w k : Nat} (hi : i < n) (hk : k < (dirL w (L i)).length) : (dirL w (L i))[k]?.getD (S + rg i) < S := by
  rw [List.getElem?_eq_getElem hk]
  exact h.lt i hi _ (dirL_mem.1 (List.getElem_mem hk))
/-- The element by places after, or before, another one. -/
def nextL (w : Nat) (l : List Nat) (x : Nat) : Option Nat := (dirL w l)[(dirL w l).idxOf x + 1]?
theorem Ring.nextL {e w x : Nat} {l : List Nat} (h : Ring P e l) (hw : w < 2) (hx : x ∈ l) : P w x = (Sx.nextL w l x).getD e := by
  have hx2 : x ∈ dirL w l := dirL_mem.2 hx
  have hi := List.idxOf_lt_length_of_mem hx2
  have h1 := h.next hw hi
  rw [List.getElem_idxOf] at h1
  exact h1
theorem LW.nextE (h : LW S n L P R rg nm sz) {i s w : Nat} (hw : w < 2) (hi : i < n) (hs : s ∈ L i) :
    (Sx.nextL w (L i) s = none ∧ ¬ P w s < S) ∨ (∃ y, Sx.nextL w (L i) s = some y ∧ P w s = y ∧ y < S) := by
  have h1 := (h.ring i hi).nextL hw hs
  cases e : Sx.nextL w (L i) s with
  | none => rw [e] at h1; exact .inl ⟨rfl, by rw [h1]; show ¬ S + rg i < S; omega⟩
  | some y =>
    rw [e] at h1
    refine .inr ⟨y, rfl, h1, h.lt i hi y ?_⟩
    exact dirL_mem.1 (List.mem_of_getElem? e)
theorem LW.outNe (h : LW S n L P R rg nm sz) {i x : Nat} (hi : i < n) (hx : x ∈ L i) : P 0 x ≠ x ∧ P 1 x ≠ x := by
  have key : ∀ d, d < 2 → P d x ≠ x := by
    intro d hd e
    have h1 := (h.ring i hi).nextL hd hx
    rw [e] at h1
    have hx2 : x ∈ dirL d (L i) := dirL_mem.2 hx
    have hl := List.idxOf_lt_length_of_mem hx2
    have hlt := h.lt i hi x hx
    unfold Sx.nextL at h1
    by_cases h2 : (dirL d (L i)).idxOf x + 1 < (dirL d (L i)).length
    · rw [List.getElem?_eq_getElem h2] at h1
      have hn := dirL_nodup (w := d) (h.nd i hi)
      have h3 : (dirL d (L i))[(dirL d (L i)).idxOf x] = (dirL d (L i))[(dirL d (L i)).idxOf x + 1] := by rw [List.getElem_idxOf]; exact h1
      have h4 := (List.getElem_inj hn).1 h3
      omega
    · rw [List.getElem?_eq_none (by omega)] at h1
      have h5 : x = S + rg i := h1
      omega
  exact ⟨key 0 (by omega), key 1 (by omega)⟩
theorem LW.firstE (h : LW S n L P R rg nm sz) {i w : Nat} (hw : w < 2) (hi : i < n) :
    ((dirL w (L i)).head? = none ∧ ¬ P w (S + rg i) < S) ∨ (∃ y, (dirL w (L i)).head? = some y ∧ P w (S + rg i) = y ∧ y < S) := by
  have h1 := (h.ring i hi).first hw
  cases e : dirL w (L i) with
  | nil => rw [e] at h1; exact .inl ⟨rfl, by rw [h1]; show ¬ S + rg i < S; omega⟩
  | cons y t =>
    rw [e] at h1
    exact .inr ⟨y, rfl, h1, h.lt i hi y (dirL_mem.1 (by rw [e]; exact List.mem_cons_self))⟩
end
theorem LW.new {S n : Nat} (h1 : 1 ≤ S) (h2 : S ≤ 8192) (h3 : 1 ≤ n) (h4 : n ≤ 4096) :
    LW S n (fun _ => []) (fun _ x => if S ≤ x ∧ x < S + n then x else 0) (fun x => if x < S then -1 else if x < S + n then ((x - S : Nat) : Int) else 0) (fun i => if i < n then i else 0) (fun i => if i < n then i else 0) (fun _ => 0) where
  s1 := h1
  s2 := h2
  n1 := h3
  n2 := h4
  hrg i hi := by rw [if_pos hi]; exact hi
  hnm i hi := by rw [if_pos hi, if_pos hi]
  hsz i hi := rfl
  nd i hi := List.nodup_nil
  lt i hi x hx := by simp at hx
  rin i hi x hx := by simp at hx
  rout x hx _ := if_pos hx
  ring i hi := by
    refine ⟨?_, ?_, trivial⟩ <;> · dsimp only; rw [if_pos hi, if_pos ⟨by omega, by omega⟩]
/-! ### one list after another one -/
def joinL (w : Nat) (T X : List Nat) : List Nat := if w = 0 then X.reverse ++ T else T ++ X
def mvL (L : Nat → List Nat) (w t f j : Nat) : Nat → List Nat := upd (upd L f (dirL (1 - w) ((dirL (1 - w) (L f)).drop j))) t (joinL w (L t) ((dirL (1 - w) (L f)).take j))
theorem mvL_zero {L : Nat → List Nat} {w t f : Nat} (h : t ≠ f) : mvL L w t f 0 = L := by
  funext k
  unfold mvL
  by_cases e1 : k = t
  · rw [e1, upd_eq, List.take_zero]; unfold joinL; split <;> simp
  · rw [upd_ne e1]
    by_cases e2 : k = f
    · rw [e2, upd_eq, List.drop_zero, dirL_dir]
    · rw [upd_ne e2]
theorem mvL_f {L : Nat → List Nat} {w t f j : Nat} (h : t ≠ f) : mvL L w t f j f = dirL (1 - w) ((dirL (1 - w) (L f)).drop j) := by
  unfold mvL; rw [upd_ne (Ne.symm h), upd_eq]
theorem mvL_t {L : Nat → List Nat} {w t f j : Nat} : mvL L w t f j t = joinL w (L t) ((dirL (1 - w) (L f)).take j) := by
  unfold mvL; rw [upd_eq]
theorem mvL_mem {L : Nat → List Nat} {w t f j : Nat} (h : t ≠ f) (hj : j < (dirL (1 - w) (L f)).length) : (dirL (1 - w) (L f))[j] ∈ mvL L w t f j f := by
  rw [mvL_f h, dirL_mem, List.drop_eq_getElem_cons hj]; exact List.mem_cons_self
theorem mv_f {w j : Nat} {M : List Nat} (hn : M.Nodup) (hj : j < M.length) : (dirL (1 - w) (M.drop j)).erase M[j] = dirL (1 - w) (M.drop (j + 1)) := by
  have hnn : (M.drop j).Nodup := hn.sublist (List.drop_sublist _ _)
  rw [List.drop_eq_getElem_cons hj] at hnn ⊢
  rw [List.nodup_cons] at hnn
  unfold dirL
  split
  · rw [List.erase_cons_head]
  · rw [List.reverse_cons, List.erase_append_right _ (by rw [List.mem_reverse]; exact hnn.1)]
    simp
theorem mv_t {w j : Nat} {M T : List Nat} (hj : j < M.length) : addL w (joinL w T (M.take j)) M[j] = joinL w T (M.take (j + 1)) := by
  rw [List.take_succ_eq_append_getElem hj]
  unfold addL joinL
  by_cases e : w = 0
  · rw [if_pos e, if_pos e, if_pos e, List.reverse_append]; rfl
  · rw [if_neg e, if_neg e, if_neg e, List.append_assoc]
theorem mvL_step {L : Nat → List Nat} {w t f j : Nat} (h : t ≠ f) (hn : (L f).Nodup) (hj : j < (dirL (1 - w) (L f)).length) :
    upd (upd (mvL L w t f j) f ((mvL L w t f j f).erase (dirL (1 - w) (L f))[j])) t (addL w (upd (mvL L w t f j) f ((mvL L w t f j f).erase (dirL (1 - w) (L f))[j]) t) (dirL (1 - w) (L f))[j]) = mvL L w t f (j + 1) := by
  have hM : (dirL (1 - w) (L f)).Nodup := dirL_nodup hn
  funext k
  rw [upd_ne (f := mvL L w t f j) h, mvL_t, mvL_f h]
  by_cases e1 : k = t
  · rw [e1, upd_eq, mvL_t, mv_t hj]
  · rw [upd_ne e1]
    by_cases e2 : k = f
    · rw [e2, upd_eq, mvL_f h, mv_f hM hj]
    · rw [upd_ne e2]
      unfold mvL
      rw [upd_ne e1, upd_ne e2, upd_ne e1, upd_ne e2]
theorem mvL_done {L : Nat → List Nat} {w t f : Nat} : mvL L w t f (dirL (1 - w) (L f)).length = upd (upd L f []) t (joinL w (L t) (dirL (1 - w) (L f))) := by
  unfold mvL
  rw [List.drop_of_length_le (Nat.le_refl _), List.take_of_length_le (Nat.le_refl _)]
  congr 2
  unfold dirL; split <;> rfl
/-! ### what is answered -/
def addE (S n : Nat) (L : Nat → List Nat) (list slot : Int) : Int := if ¬ (0 ≤ list ∧ list < n ∧ 0 ≤ slot ∧ slot < S) then 2 else if (ofL n L slot.toNat).isSome then 140 else 0
def addS (S n : Nat) (L : Nat → List Nat) (w : Nat) (list slot : Int) : Nat → List Nat := if addE S n L list slot = 0 then upd L list.toNat (addL w (L list.toNat) slot.toNat) else L
def outE (S n : Nat) (L : Nat → List Nat) (slot : Int) : Int := if ¬ (0 ≤ slot ∧ slot < S) then 2 else if (ofL n L slot.toNat).isSome then 0 else 6
def outS (S n : Nat) (L : Nat → List Nat) (slot : Int) : Nat → List Nat := if ¬ (0 ≤ slot ∧ slot < S) then L else match ofL n L slot.toNat with | some i => upd L i ((L i).erase slot.toNat) | none => L
def joinE (n : Nat) (to fr : Int) : Int := if ¬ (0 ≤ to ∧ to < n ∧ 0 ≤ fr ∧ fr < n) ∨ to = fr then 2 else 0
def joinS (n : Nat) (L : Nat → List Nat) (to fr : Int) : Nat → List Nat := if joinE n to fr = 0 then upd (upd L fr.toNat []) to.toNat (L to.toNat ++ L fr.toNat) else L
def ofS (S n : Nat) (L : Nat → List Nat) (slot : Int) : Option Nat := if 0 ≤ slot ∧ slot < S then ofL n L slot.toNat else none
def endS (n : Nat) (L : Nat → List Nat) (w : Nat) (list : Int) : Option Nat := if 0 ≤ list ∧ list < n then (dirL w (L list.toNat)).head? else none
def stepS (S n : Nat) (L : Nat → List Nat) (w : Nat) (slot : Int) : Option Nat := match ofS S n L slot with | some i => nextL w (L i) slot.toNat | none => none
def allS (n : Nat) (L : Nat → List Nat) (list : Int) : List Nat := if 0 ≤ list ∧ list < n then L list.toNat else []
abbrev optV (o : Option Nat) : Value := .tuple [.int .i64 ((o.getD 0 : Nat) : Int), .bool o.isSome].toArray
end Go.Proofs.Ytojeibjlkbffcaa.Sx
