/-
  Lists of slots: what 'whole' needs; what is joined. Nothing of a program stands here.
-/
import Derived.Test.YtcokognhodjfgaaLkLaw
namespace Go.Proofs.Ytcokognhodjfgaa.Sx
open Go
set_option linter.unusedVariables false
set_option linter.unusedSimpArgs false
def ebL (b : Bool) : List Value := [.bool b]
theorem new_bools {N : Nat} : zeros [.bool false] N = (tab N (fun _ => false)).flatMap ebL := by
  rw [zeros_flat (zc := [.bool false]) (enc := ebL) false N rfl]
  congr 1
  apply List.ext_getElem
  · simp [tab]
  · intro i h1 h2
    rw [tab_get h2, List.getElem_replicate]
theorem isSome_dir {w i : Nat} {l : List Nat} : ((dirL w l)[i]?).isSome = decide (i < l.length) := by
  by_cases h : i < (dirL w l).length
  · rw [List.getElem?_eq_getElem h]; rw [dirL_len] at h; simp [h]
  · rw [List.getElem?_eq_none (by omega)]; rw [dirL_len] at h; simp [h]
theorem dir0_get {l : List Nat} {j p : Nat} (h : j < l.length) (hp : l[j] = p) : (dirL 0 l)[j]?.getD 0 = p := by
  show l[j]?.getD 0 = p
  rw [List.getElem?_eq_getElem h, hp]; rfl
theorem dir1_get {l : List Nat} {j p : Nat} (h : j < l.length) (hp : l[l.length - 1 - j]'(by omega) = p) : (dirL 1 l)[j]?.getD 0 = p := by
  show l.reverse[j]?.getD 0 = p
  rw [List.getElem?_reverse h, List.getElem?_eq_getElem (by omega), hp]; rfl
section
variable {S n : Nat} {L : Nat → List Nat}
theorem WL.stepD (h : WL S n L) {k j w p : Nat} (hk : k < n) (hj : j < (L k).length) (hp : (dirL w (L k))[j]?.getD 0 = p) : stepS S n L w (p : Int) = (dirL w (L k))[j + 1]? := by
  have hj2 : j < (dirL w (L k)).length := by rw [dirL_len]; exact hj
  rw [List.getElem?_eq_getElem hj2] at hp
  have hp2 : (dirL w (L k))[j] = p := hp
  rw [← hp2]
  exact h.step hk hj2
def SeenI (S : Nat) (f : Nat → Bool) (L : Nat → List Nat) (k j : Nat) : Prop := ∀ y, y < S → (f y = true ↔ (∃ k', k' < k ∧ y ∈ L k') ∨ y ∈ (L k).take j)
def SeenO (S : Nat) (f : Nat → Bool) (L : Nat → List Nat) (k : Nat) : Prop := ∀ y, y < S → (f y = true ↔ ∃ k', k' < k ∧ y ∈ L k')
theorem SeenO.start : SeenO S (fun _ => false) L 0 := fun y _ => ⟨fun h => (by cases h), fun ⟨k, h, _⟩ => by omega⟩
theorem SeenO.into {f : Nat → Bool} {k : Nat} (h : SeenO S f L k) : SeenI S f L k 0 := fun y hy => by
  rw [h y hy, List.take_zero]; simp
theorem SeenI.next {f : Nat → Bool} {k j p : Nat} (h : SeenI S f L k j) (hj : j < (L k).length) (hp : (L k)[j] = p) : SeenI S (upd f p true) L k (j + 1) := fun y hy => by
  rw [List.take_succ_eq_append_getElem hj, hp, List.mem_append, List.mem_singleton]
  by_cases e : y = p
  · rw [e, upd_eq]; simp
  · rw [upd_ne e, h y hy]; simp [e]
theorem SeenI.done {f : Nat → Bool} {k j : Nat} (h : SeenI S f L k j) (hj : j = (L k).length) : SeenO S f L (k + 1) := fun y hy => by
  subst hj
  rw [h y hy, List.take_of_length_le (Nat.le_refl _)]
  constructor
  · rintro (⟨k', h1, h2⟩ | h1)
    · exact ⟨k', by omega, h2⟩
    · exact ⟨k, by omega, h1⟩
  · rintro ⟨k', h1, h2⟩
    by_cases e : k' = k
    · exact .inr (by rw [← e]; exact h2)
    · exact .inl ⟨k', by omega, h2⟩
theorem SeenI.no {f : Nat → Bool} {k j p : Nat} (h : SeenI S f L k j) (hW : WL S n L) (hk : k < n) (hj : j < (L k).length) (hp : (L k)[j] = p) : f p = false := by
  have hm : p ∈ L k := by rw [← hp]; exact List.getElem_mem hj
  cases e : f p with
  | false => rfl
  | true =>
    rcases (h p (hW.lt k hk p hm)).1 e with ⟨k', h1, h2⟩ | h1
    · have := hW.dj k' k p (by omega) hk h2 hm; omega
    · obtain ⟨i, hi, he⟩ := List.mem_iff_getElem.1 h1
      rw [List.getElem_take] at he
      rw [List.length_take] at hi
      have h9 : (L k)[i]'(by omega) = (L k)[j] := he.trans hp.symm
      have := (List.getElem_inj (hW.nd k hk)).1 h9
      omega
theorem SeenO.all {f : Nat → Bool} (h : SeenO S f L n) {y : Nat} (hy : y < S) : (ofL n L y).isSome = f y := by
  cases e : ofL n L y with
  | none =>
    have h1 := ofL_none.1 e
    cases e2 : f y with
    | false => rfl
    | true => obtain ⟨k, hk, hm⟩ := (h y hy).1 e2; exact absurd hm (h1 k hk)
  | some k => rw [(h y hy).2 ⟨k, (ofL_mem e).1, (ofL_mem e).2⟩]; rfl
end
end Go.Proofs.Ytcokognhodjfgaa.Sx
namespace Go.Proofs.Ytcokognhodjfgaa.Sx
open Go
theorem tmod_bd {n d : Int} (h : 0 < d) : -d < n.tmod d ∧ n.tmod d < d := ⟨Int.lt_tmod_of_pos n h, Int.tmod_lt_of_pos n h⟩
section
variable {S n : Nat} {L : Nat → List Nat} {s k : Int} {w : Nat}
theorem ofS_out (h : ¬ (0 ≤ s ∧ s < S)) : ofS S n L s = none := if_neg h
theorem stepS_out (h : ¬ (0 ≤ s ∧ s < S)) : stepS S n L w s = none := by rw [stepS, ofS_out h]
theorem addE_outS (h : ¬ (0 ≤ s ∧ s < S)) : addE S n L k s = 2 := by rw [addE, if_pos (by omega)]
theorem addS_outS (h : ¬ (0 ≤ s ∧ s < S)) : addS S n L w k s = L := by rw [addS, addE_outS h]; rfl
theorem addE_outK (h : ¬ (0 ≤ k ∧ k < n)) : addE S n L k s = 2 := by rw [addE, if_pos (by omega)]
theorem addS_outK (h : ¬ (0 ≤ k ∧ k < n)) : addS S n L w k s = L := by rw [addS, addE_outK h]; rfl
theorem outE_out (h : ¬ (0 ≤ s ∧ s < S)) : outE S n L s = 2 := by rw [outE, if_pos h]
theorem outS_out (h : ¬ (0 ≤ s ∧ s < S)) : outS S n L s = L := by rw [outS, if_pos h]
theorem endS_out (h : ¬ (0 ≤ k ∧ k < n)) : endS n L w k = none := if_neg h
theorem allS_out (h : ¬ (0 ≤ k ∧ k < n)) : allS n L k = [] := if_neg h
theorem joinE_two {t f : Int} (h : ¬ (0 ≤ t ∧ t < n ∧ 0 ≤ f ∧ f < n) ∨ t = f) : joinE n t f = 2 := if_pos h
theorem joinS_two {t f : Int} (h : ¬ (0 ≤ t ∧ t < n ∧ 0 ≤ f ∧ f < n) ∨ t = f) : joinS n L t f = L := by rw [joinS, joinE_two h]; rfl
end
theorem two_out {n : Int} {S : Nat} {i : Nat} (h : i < ([min n (-1), max n (S : Int)] : List Int).length) : ¬ (0 ≤ ([min n (-1), max n (S : Int)] : List Int)[i] ∧ ([min n (-1), max n (S : Int)] : List Int)[i] < (S : Int)) := by
  have h2 : i < 2 := h
  obtain rfl | rfl : i = 0 ∨ i = 1 := by omega
  · simp only [List.getElem_cons_zero]; omega
  · simp only [List.getElem_cons_succ, List.getElem_cons_zero]; omega
def joined (L : Nat → List Nat) : Nat → List Nat := fun k => if k = 0 then L 0 ++ L 1 ++ L 2 else if k = 1 ∨ k = 2 then [] else L k
theorem joined_x {L : Nat → List Nat} : joinS 4 (joinS 4 L 0 1) 0 2 = joined L := by
  have h1 : joinS 4 L 0 1 = upd (upd L 1 []) 0 (L 0 ++ L 1) := rfl
  rw [h1]
  show upd (upd (upd (upd L 1 []) 0 (L 0 ++ L 1)) 2 []) 0 (upd (upd L 1 []) 0 (L 0 ++ L 1) 0 ++ upd (upd L 1 []) 0 (L 0 ++ L 1) 2) = joined L
  funext k
  unfold joined
  by_cases h0 : k = 0
  · subst h0; simp [upd]
  · rw [upd_ne h0, if_neg h0]
    by_cases h2 : k = 2
    · subst h2; simp [upd]
    · rw [upd_ne h2, upd_ne h0]
      by_cases h1 : k = 1
      · subst h1; simp [upd]
      · rw [upd_ne h1, if_neg (by omega)]
theorem joined_y {L : Nat → List Nat} : joinS 4 (joinS 4 L 1 2) 0 1 = joined L := by
  have h1 : joinS 4 L 1 2 = upd (upd L 2 []) 1 (L 1 ++ L 2) := rfl
  rw [h1]
  show upd (upd (upd (upd L 2 []) 1 (L 1 ++ L 2)) 1 []) 0 (upd (upd L 2 []) 1 (L 1 ++ L 2) 0 ++ upd (upd L 2 []) 1 (L 1 ++ L 2) 1) = joined L
  funext k
  unfold joined
  by_cases h0 : k = 0
  · subst h0; simp [upd]
  · rw [upd_ne h0, if_neg h0]
    by_cases h1 : k = 1
    · subst h1; simp [upd]
    · rw [upd_ne h1, upd_ne h1]
      by_cases h2 : k = 2
      · subst h2; simp [upd]
      · rw [upd_ne h2, if_neg (by omega)]
end Go.Proofs.Ytcokognhodjfgaa.Sx
