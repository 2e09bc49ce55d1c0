/-
  New lists in memory; one list moved behind another one: plain laws. Nothing of a program stands here.
-/
import Derived.Test.YtojeibjlkbffcaaLk3
namespace Go.Proofs.Ytojeibjlkbffcaa.Sx
open Go
set_option linter.unusedVariables false
set_option linter.unusedSimpArgs false
def newR1 (k : Nat) : Nat → Int := fun y => if y < k then -1 else 0
def newP (S j : Nat) : Nat → Nat → Nat := fun _ x => if S ≤ x ∧ x < S + j then x else 0
def newR (S j : Nat) : Nat → Int := fun x => if x < S then -1 else if x < S + j then ((x - S : Nat) : Int) else 0
def newI (j : Nat) : Nat → Nat := fun i => if i < j then i else 0
theorem new_nodes {S N : Nat} : zeros [.int .i64 0, .int .i64 0, .int .i64 0] N = (nods N (newP S 0) (newR1 0)).flatMap eL := by
  rw [zeros_flat (zc := [.int .i64 0, .int .i64 0, .int .i64 0]) (enc := eL) ((fun _ => 0, 0) : Nl) N rfl]
  congr 1
  apply List.ext_getElem
  · simp [nods, tab]
  · intro i h1 h2
    rw [nods_get h2, List.getElem_replicate]
    unfold newP newR1
    refine Prod.ext (funext fun d => ?_) ?_
    · dsimp only; rw [if_neg (by omega)]; rfl
    · dsimp only; rw [if_neg (by omega)]
theorem new_tab {N : Nat} : zeros [.int .i64 0] N = (tabN N (newI 0)).flatMap e1 := by
  rw [zeros_flat (zc := [.int .i64 0]) (enc := e1) (0 : Int) N rfl]
  congr 1
  apply List.ext_getElem
  · simp [tabN, tab]
  · intro i h1 h2
    rw [tabN_get h2, List.getElem_replicate]
    unfold newI
    rw [if_neg (by omega)]; rfl
theorem newR1_step {k : Nat} : upd (newR1 k) k (-1) = newR1 (k + 1) := by
  funext y
  unfold upd newR1
  by_cases e : y = k
  · rw [if_pos e, if_pos (by omega)]
  · rw [if_neg e]
    by_cases h : y < k
    · rw [if_pos h, if_pos (by omega)]
    · rw [if_neg h, if_neg (by omega)]
theorem newR1_all {S : Nat} : newR1 S = newR S 0 := by
  funext y
  unfold newR1 newR
  by_cases h : y < S
  · rw [if_pos h, if_pos h]
  · rw [if_neg h, if_neg h, if_neg (by omega)]
theorem newI_step {j : Nat} : upd (newI j) j j = newI (j + 1) := by
  funext y
  unfold upd newI
  by_cases e : y = j
  · rw [if_pos e, if_pos (by omega), e]
  · rw [if_neg e]
    by_cases h : y < j
    · rw [if_pos h, if_pos (by omega)]
    · rw [if_neg h, if_neg (by omega)]
theorem new_step {S N j : Nat} : (nods N (newP S j) (newR S j)).set (S + j) (fun _ => ((S + j : Nat) : Int), ((j : Nat) : Int)) = nods N (newP S (j + 1)) (newR S (j + 1)) := by
  unfold nods
  rw [tab_set]
  refine tab_congr fun i hi => ?_
  unfold upd
  by_cases e : i = S + j
  · rw [if_pos e]
    refine Prod.ext (funext fun d => ?_) ?_
    · unfold newP; dsimp only; rw [if_pos ⟨by omega, by omega⟩, e]
    · unfold newR; dsimp only; rw [if_neg (by omega), if_pos (by omega), e, Nat.add_sub_cancel_left]
  · rw [if_neg e]
    refine Prod.ext (funext fun d => ?_) ?_
    · unfold newP; dsimp only
      by_cases h : S ≤ i ∧ i < S + j
      · rw [if_pos h, if_pos ⟨by omega, by omega⟩]
      · rw [if_neg h, if_neg (by omega)]
    · unfold newR; dsimp only
      by_cases h : i < S
      · rw [if_pos h, if_pos h]
      · rw [if_neg h, if_neg h]
        by_cases h2 : i < S + j
        · rw [if_pos h2, if_pos (by omega)]
        · rw [if_neg h2, if_neg (by omega)]
theorem LW.new' {S n : Nat} (h1 : 1 ≤ S) (h2 : S ≤ 8192) (h3 : 1 ≤ n) (h4 : n ≤ 4096) : LW S n (fun _ => []) (newP S n) (newR S n) (newI n) (newI n) (newI 0) := by
  have h := LW.new h1 h2 h3 h4
  have e : newI 0 = fun _ => 0 := by funext y; unfold newI; rw [if_neg (by omega)]
  rw [e]
  exact h
theorem upd_comm {α : Type} {f : Nat → α} {i j : Nat} {u v : α} (h : i ≠ j) : upd (upd f i u) j v = upd (upd f j v) i u := by
  funext k
  unfold upd
  by_cases e1 : k = j <;> by_cases e2 : k = i
  · exact absurd (e2.symm.trans e1) h
  · rw [if_pos e1, if_neg e2, if_pos e1]
  · rw [if_neg e1, if_pos e2, if_pos e2]
  · rw [if_neg e1, if_neg e2, if_neg e2, if_neg e1]
theorem cst_next {M : List Nat} {i e : Nat} (hi : i < M.length) : cst (M.take i) ++ [((M[i]?.getD e : Nat) : Int)] = cst (M.take (i + 1)) := by
  rw [cst_snoc, List.take_succ_eq_append_getElem hi, List.getElem?_eq_getElem hi]; rfl
theorem cst_get {M : List Nat} {i : Nat} (h : i < (cst M).length) : (cst M)[i] = ((M[i]'(by rw [← cst_len]; exact h) : Nat) : Int) := by simp [cst]
theorem LW.outNo {S n : Nat} {L : Nat → List Nat} {P : Nat → Nat → Nat} {R : Nat → Int} {rg nm sz : Nat → Nat} (h : LW S n L P R rg nm sz) {i s : Nat} (hi : i < n) (hs : s ∈ L i) : ∀ j, j < n → s ∉ upd L i ((L i).erase s) j := by
  intro j hj hm
  rcases upd_cases (f := L) (i := i) (j := j) (v := (L i).erase s) with ⟨e, e1⟩ | ⟨e, e1⟩ <;> rw [e1] at hm
  · exact ((h.nd i hi).mem_erase_iff.1 hm).1 rfl
  · exact e (h.dj hj hi hm hs)
theorem mvL_next {L : Nat → List Nat} {w t f j s : Nat} {M : List Nat} (h : t ≠ f) (hn : (L f).Nodup) (hM : dirL (1 - w) (L f) = M) (hj : j < M.length) (hs : M[j] = s) :
    upd (upd (mvL L w t f j) f ((mvL L w t f j f).erase s)) t (addL w (upd (mvL L w t f j) f ((mvL L w t f j f).erase s) t) s) = mvL L w t f (j + 1) := by
  subst hM hs
  exact mvL_step h hn hj
theorem join_front {L : Nat → List Nat} {x y : Nat} (h : x ≠ y) :
    upd (upd (upd (upd L x (L y)) y (L x)) y []) x (joinL 0 (upd (upd L x (L y)) y (L x) x) (dirL (1 - 0) (upd (upd L x (L y)) y (L x) y))) = upd (upd L y []) x (L x ++ L y) := by
  have e1 : upd (upd L x (L y)) y (L x) x = L y := by rw [upd_ne h, upd_eq]
  have e2 : upd (upd L x (L y)) y (L x) y = L x := upd_eq
  rw [e1, e2]
  funext k
  by_cases h1 : k = x
  · rw [h1, upd_eq, upd_eq]; simp [joinL, dirL]
  · rw [upd_ne h1, upd_ne h1]
    by_cases h2 : k = y
    · rw [h2, upd_eq, upd_eq]
    · rw [upd_ne h2, upd_ne h2, upd_ne h2, upd_ne h1]
theorem join_back {L : Nat → List Nat} {x y : Nat} : upd (upd L y []) x (joinL 1 (L x) (dirL (1 - 1) (L y))) = upd (upd L y []) x (L x ++ L y) := rfl
end Go.Proofs.Ytojeibjlkbffcaa.Sx
