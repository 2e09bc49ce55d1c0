/-
  My plain texts put together into one module.
-/
import Derived.Test.YtkhdejjompbklaaVPza
namespace Go.Proofs.Ytkhdejjompbklaa.Sx
open Go
set_option linter.unusedVariables false
set_option linter.unusedSimpArgs false
section
variable {O : List (Int × Nat)} {i j s x : Nat}
theorem tab_repD {α : Type} {n : Nat} {x : α} : List.replicate n x = tab n (fun _ => x) := by
  apply List.ext_getElem
  · simp [tab]
  · intro i h1 h2; simp [tab]
def metM (O : List (Int × Nat)) (i j : Nat) (x : Nat) : Bool := decide ((∃ q ∈ O, q.2 = x ∧ q.1 < (i : Int)) ∨ x ∈ (slO O (i : Int)).take j)
def lowC (O : List (Int × Nat)) (i : Nat) : Nat := (O.filter fun q => decide (q.1 < (i : Int))).length
theorem lowC_succ : lowC O (i + 1) = lowC O i + (slO O (i : Int)).length := by
  unfold lowC slO
  rw [List.length_map]
  induction O with
  | nil => rfl
  | cons q t ih =>
    simp only [List.filter_cons]
    by_cases h1 : q.1 < (i : Int)
    · rw [if_pos (by simp; omega), if_pos (by simpa using h1), if_neg (by simp; omega)]
      simp only [List.length_cons]; omega
    · by_cases h2 : q.1 = (i : Int)
      · rw [if_pos (by simp; omega), if_neg (by simpa using h1), if_pos (by simpa using h2)]
        simp only [List.length_cons]; omega
      · rw [if_neg (by simp; omega), if_neg (by simpa using h1), if_neg (by simpa using h2)]
        exact ih
theorem lowC_zero (h : ∀ q ∈ O, 0 ≤ q.1 ∧ q.1 < 6) : lowC O 0 = 0 := by
  unfold lowC
  rw [List.length_eq_zero_iff, List.filter_eq_nil_iff]
  intro q hq c
  have := of_decide_eq_true c
  have := (h q hq).1
  omega
theorem lowC_six (h : ∀ q ∈ O, 0 ≤ q.1 ∧ q.1 < 6) : lowC O 6 = O.length := by
  unfold lowC
  have e : O.filter (fun q => decide (q.1 < ((6 : Nat) : Int))) = O := List.filter_eq_self.2 fun q hq => decide_eq_true (by have := (h q hq).2; omega)
  rw [e]
theorem lowC_le : lowC O i ≤ O.length := by unfold lowC; exact List.length_filter_le _ _
theorem met_zero (h : ∀ q ∈ O, 0 ≤ q.1 ∧ q.1 < 6) : metM O 0 0 = fun _ => false := by
  funext x
  unfold metM
  refine decide_eq_false ?_
  rintro (⟨q, hq, _, h2⟩ | h2)
  · have := (h q hq).1
    omega
  · simp at h2
theorem met_step (hs : (slO O (i : Int))[j]? = some s) : upd (metM O i j) s true = metM O i (j + 1) := by
  obtain ⟨hj, he⟩ := List.getElem?_eq_some_iff.1 hs
  funext x
  unfold upd metM
  rw [List.take_succ_eq_append_getElem hj, he]
  by_cases e : x = s
  · rw [if_pos e]
    exact (decide_eq_true (.inr (List.mem_append.2 (.inr (by rw [e]; exact List.mem_cons_self))))).symm
  · rw [if_neg e]
    refine decide_eq_decide.2 ?_
    rw [List.mem_append]
    constructor
    · rintro (h | h)
      · exact .inl h
      · exact .inr (.inl h)
    · rintro (h | h | h)
      · exact .inl h
      · exact .inr h
      · exact absurd (List.mem_singleton.1 h) e
theorem met_next (hj : (slO O (i : Int)).length ≤ j) : metM O i j = metM O (i + 1) 0 := by
  funext x
  unfold metM
  refine decide_eq_decide.2 ?_
  rw [List.take_of_length_le hj]
  constructor
  · rintro (⟨q, hq, h1, h2⟩ | h)
    · exact .inl ⟨q, hq, h1, by omega⟩
    · exact .inl ⟨_, slO_mem.1 h, rfl, by dsimp only; omega⟩
  · rintro (⟨q, hq, h1, h2⟩ | h)
    · by_cases h3 : q.1 < (i : Int)
      · exact .inl ⟨q, hq, h1, h3⟩
      · refine .inr (slO_mem.2 ?_)
        have h4 : q = ((i : Int), x) := Prod.ext (by dsimp only; omega) h1
        exact h4 ▸ hq
    · simp at h
theorem met_no (hn : (O.map Prod.snd).Nodup) (hs : (slO O (i : Int))[j]? = some s) : metM O i j s = false := by
  obtain ⟨hj, he⟩ := List.getElem?_eq_some_iff.1 hs
  have hm : ((i : Int), s) ∈ O := slO_mem.1 (he ▸ List.getElem_mem hj)
  unfold metM
  refine decide_eq_false ?_
  rintro (⟨q, hq, h1, h2⟩ | h)
  · have := nodup_map_inj hn hq hm h1
    rw [this] at h2
    dsimp only at h2; omega
  · obtain ⟨k, hk, hke⟩ := List.getElem_of_mem h
    rw [List.length_take] at hk
    rw [List.getElem_take] at hke
    exact List.pairwise_iff_getElem.1 (slO_nodup (a := (i : Int)) hn) k j (by omega) hj (by omega) (hke.trans he.symm)
theorem met_six (h : ∀ q ∈ O, 0 ≤ q.1 ∧ q.1 < 6) (hn : (O.map Prod.snd).Nodup) : metM O 6 0 x = (ofO O (x : Int)).isSome := by
  unfold metM
  cases hv : ofO O (x : Int) with
  | none =>
    refine decide_eq_false ?_
    rintro (⟨q, hq, h1, _⟩ | h2)
    · exact ofO_none.1 hv q hq (by omega)
    · simp at h2
  | some b =>
    obtain ⟨s, e, hm⟩ := ofO_in hv
    have e2 : x = s := by omega
    subst e2
    exact decide_eq_true (.inl ⟨_, hm, rfl, (h _ hm).2⟩)
theorem mem_cst {l : List Nat} : ((x : Int) ∈ cst l) ↔ x ∈ l := by
  unfold cst
  rw [List.mem_map]
  constructor
  · rintro ⟨y, hy, e⟩
    have : y = x := by omega
    exact this ▸ hy
  · intro h; exact ⟨x, h, rfl⟩
theorem asD_some {S lim : Nat} {D : Dk} (h : DW S lim D) {b : Int} (hb : ofO D.T.O (x : Int) = some b) : asD S D (x : Int) = !decide (x ∈ D.ord) := by
  obtain ⟨s, e, hm⟩ := ofO_in hb
  have e2 : x = s := by omega
  subst e2
  unfold asD
  rw [(clsE_of h hm).1, Int.toNat_natCast]; simp
theorem asD_none {S lim : Nat} {D : Dk} (h : DW S lim D) (hx : x < S) (hb : ofO D.T.O (x : Int) = none) : asD S D (x : Int) = false ∧ x ∉ D.ord := by
  refine ⟨?_, fun hm => ?_⟩
  · unfold asD
    rw [(cls_none (S := S) (T := D.T) (by omega) hb).1]; rfl
  · obtain ⟨b, hq⟩ := h.ordOf hm
    exact ofO_none.1 hb _ hq rfl
end
end Go.Proofs.Ytkhdejjompbklaa.Sx
