/-
  Slots in the order in which they were seen, and the times alone: plain laws. Nothing of a program stands here.
-/
import Derived.Test.YtojeibjlkbffcaaLru3
namespace Go.Proofs.Ytojeibjlkbffcaa.Sx
open Go
set_option linter.unusedVariables false
set_option linter.unusedSimpArgs false
structure LS (S : Nat) (ord : List Nat) (T : Nat → Int) (now : Int) (tm : Nat → Int) : Prop where
  nd : ord.Nodup
  lt : ∀ x ∈ ord, x < S
  pw : ord.Pairwise fun a b => T a < T b
  bd : ∀ x ∈ ord, 0 < T x ∧ T x ≤ now
  tm1 : ∀ x ∈ ord, tm x = T x
  tm0 : ∀ x, x < S → x ∉ ord → tm x = 0
theorem LS.new {S : Nat} : LS S [] (fun _ => 0) 0 (fun _ => 0) := ⟨List.nodup_nil, by simp, List.Pairwise.nil, by simp, by simp, fun _ _ _ => rfl⟩
section
variable {S : Nat} {ord : List Nat} {T : Nat → Int} {now : Int} {tm : Nat → Int} {s : Nat}
theorem LS.pos (h : LS S ord T now tm) (hs : s < S) : s ∈ ord ↔ 0 < tm s := by
  constructor
  · intro hm; rw [h.tm1 s hm]; exact (h.bd s hm).1
  · intro hp
    by_cases hm : s ∈ ord
    · exact hm
    · rw [h.tm0 s hs hm] at hp; omega
theorem LS.eqb (h : LS S ord T now tm) (hs : s < S) : decide ((if s ∈ ord then (0 : Int) else 6) = 0) = decide (0 < tm s) := by
  by_cases hm : s ∈ ord
  · rw [if_pos hm, decide_eq_true ((h.pos hs).1 hm)]; rfl
  · rw [if_neg hm, decide_eq_false fun hp => hm ((h.pos hs).2 hp)]; rfl
theorem LS.out (h : LS S ord T now tm) (hs : s < S) : LS S (ord.erase s) T now (upd tm s 0) where
  nd := h.nd.erase s
  lt x hx := h.lt x (List.mem_of_mem_erase hx)
  pw := h.pw.sublist List.erase_sublist
  bd x hx := h.bd x (List.mem_of_mem_erase hx)
  tm1 x hx := by
    have hx2 := (h.nd.mem_erase_iff.1 hx)
    rw [upd_ne hx2.1, h.tm1 x hx2.2]
  tm0 x hx hno := by
    by_cases e : x = s
    · rw [e, upd_eq]
    · rw [upd_ne e]; exact h.tm0 x hx fun hm => hno ((List.mem_erase_of_ne e).2 hm)
theorem LS.see (h : LS S ord T now tm) (hs : s < S) (hn : 0 ≤ now) : LS S (ord.erase s ++ [s]) (upd T s (now + 1)) (now + 1) (upd tm s (now + 1)) := by
  have h1 := h.out hs
  have hne : ∀ x ∈ ord.erase s, x ≠ s := fun x hx => (h.nd.mem_erase_iff.1 hx).1
  refine ⟨?_, ?_, ?_, ?_, ?_, ?_⟩
  · rw [List.nodup_append]
    refine ⟨h1.nd, by simp, fun a ha b hb e => ?_⟩
    simp only [List.mem_singleton] at hb
    exact hne a ha (e.trans hb)
  · intro x hx
    rcases List.mem_append.1 hx with hx | hx
    · exact h1.lt x hx
    · simp only [List.mem_singleton] at hx; omega
  · rw [List.pairwise_append]
    refine ⟨?_, by simp, fun a ha b hb => ?_⟩
    · refine h1.pw.imp_of_mem fun {a b} ha hb hab => ?_
      rw [upd_ne (hne a ha), upd_ne (hne b hb)]; exact hab
    · simp only [List.mem_singleton] at hb
      rw [hb, upd_eq, upd_ne (hne a ha)]
      have := (h1.bd a ha).2; omega
  · intro x hx
    rcases List.mem_append.1 hx with hx | hx
    · rw [upd_ne (hne x hx)]; have := h1.bd x hx; omega
    · simp only [List.mem_singleton] at hx
      rw [hx, upd_eq]; omega
  · intro x hx
    rcases List.mem_append.1 hx with hx | hx
    · rw [upd_ne (hne x hx), upd_ne (hne x hx)]
      exact h.tm1 x (List.mem_of_mem_erase hx)
    · simp only [List.mem_singleton] at hx
      rw [hx, upd_eq, upd_eq]
  · intro x hx hno
    have hxs : x ≠ s := fun e => hno (by simp [e])
    rw [upd_ne hxs]
    exact h.tm0 x hx fun hm => hno (List.mem_append.2 (.inl ((List.mem_erase_of_ne hxs).2 hm)))
end
/-- The least time behind another one, among the first. -/
def Bst (tm : Nat → Int) (last : Int) (i : Nat) (z : Int) : Prop := (z = -1 ∧ ∀ x, x < i → ¬ tm x > last) ∨ ∃ y : Nat, z = y ∧ y < i ∧ tm y > last ∧ ∀ x, x < i → tm x > last → tm y ≤ tm x
section
variable {S : Nat} {ord : List Nat} {T : Nat → Int} {now : Int} {tm : Nat → Int} {last z : Int} {i j : Nat}
theorem Bst.start : Bst tm last 0 (-1) := .inl ⟨rfl, fun x h => by omega⟩
theorem Bst.take (h : Bst tm last i z) (h1 : tm i > last) (h2 : z < 0 ∨ ∃ y : Nat, z = y ∧ tm i < tm y) : Bst tm last (i + 1) (i : Int) := by
  refine .inr ⟨i, rfl, by omega, h1, fun x hx hp => ?_⟩
  by_cases e : x = i
  · rw [e]; omega
  · rcases h with ⟨h3, h4⟩ | ⟨y, h3, h4, h5, h6⟩
    · exact absurd hp (h4 x (by omega))
    · rcases h2 with h2 | ⟨y2, h2, h7⟩
      · omega
      · have hy : y = y2 := by omega
        subst hy
        have := h6 x (by omega) hp
        omega
theorem Bst.skip (h : Bst tm last i z) (h2 : ¬ tm i > last ∨ ∃ y : Nat, z = y ∧ ¬ tm i < tm y) : Bst tm last (i + 1) z := by
  rcases h with ⟨h3, h4⟩ | ⟨y, h3, h4, h5, h6⟩
  · refine .inl ⟨h3, fun x hx => ?_⟩
    by_cases e : x = i
    · rw [e]
      rcases h2 with h2 | ⟨y, h2, _⟩
      · exact h2
      · omega
    · exact h4 x (by omega)
  · refine .inr ⟨y, h3, by omega, h5, fun x hx hp => ?_⟩
    by_cases e : x = i
    · rw [e] at hp ⊢
      rcases h2 with h2 | ⟨y2, h2, h7⟩
      · exact absurd hp h2
      · have hy : y = y2 := by omega
        subst hy; omega
    · exact h6 x (by omega) hp
/-- The first j of those behind t0 were found; the last of their times. -/
def lastS (F : List Nat) (T : Nat → Int) (t0 : Int) (j : Nat) : Int := if j = 0 then t0 else T (F[j - 1]?.getD 0)
theorem LS.low (h : LS S ord T now tm) {t0 : Int} (h0 : 0 ≤ t0) : t0 ≤ lastS (ord.filter fun a => decide (T a > t0)) T t0 j ∨ (ord.filter fun a => decide (T a > t0)).length < j := by
  unfold lastS
  by_cases hj : j = 0
  · rw [if_pos hj]; exact .inl (Int.le_refl _)
  · rw [if_neg hj]
    by_cases hl : j - 1 < (ord.filter fun a => decide (T a > t0)).length
    · rw [List.getElem?_eq_getElem hl]
      have := List.getElem_mem hl
      rw [List.mem_filter] at this
      have := of_decide_eq_true this.2
      refine .inl ?_
      show t0 ≤ T (ord.filter fun a => decide (T a > t0))[j - 1]
      omega
    · exact .inr (by omega)
theorem LS.pick (h : LS S ord T now tm) {t0 : Int} (h0 : 0 ≤ t0) (hj : j ≤ (ord.filter fun a => decide (T a > t0)).length) {y : Nat} (hyS : y < S) (h1 : tm y > lastS (ord.filter fun a => decide (T a > t0)) T t0 j)
    (h2 : ∀ x, x < S → tm x > lastS (ord.filter fun a => decide (T a > t0)) T t0 j → tm y ≤ tm x) : ∃ hl : j < (ord.filter fun a => decide (T a > t0)).length, (ord.filter fun a => decide (T a > t0))[j] = y := by
  obtain ⟨F, hF⟩ : ∃ F, (ord.filter fun a => decide (T a > t0)) = F := ⟨_, rfl⟩
  have hlow := h.low (j := j) h0
  rw [hF] at hj h1 h2 hlow ⊢
  have hpw : F.Pairwise fun a b => T a < T b := by rw [← hF]; exact h.pw.filter _
  have hmem : ∀ x ∈ F, x ∈ ord ∧ T x > t0 := by
    intro x hx; rw [← hF, List.mem_filter] at hx; exact ⟨hx.1, of_decide_eq_true hx.2⟩
  have hlo : t0 ≤ lastS F T t0 j := by rcases hlow with h | h <;> omega
  have hyo : y ∈ ord := (h.pos hyS).2 (by omega)
  have hyT := h.tm1 y hyo
  have hyF : y ∈ F := by rw [← hF, List.mem_filter]; exact ⟨hyo, decide_eq_true (by omega)⟩
  obtain ⟨m, hm, he⟩ := List.mem_iff_getElem.1 hyF
  have hmj : j ≤ m := by
    by_cases hlt : m < j
    · exfalso
      unfold lastS at h1
      rw [if_neg (by omega), List.getElem?_eq_getElem (by omega)] at h1
      have h3 : T F[m] ≤ T F[j - 1] := by
        by_cases e : m = j - 1
        · subst e; exact Int.le_refl _
        · have := (List.pairwise_iff_getElem.1 hpw) m (j - 1) hm (by omega) (by omega); omega
      have h4 : tm y > T F[j - 1] := h1
      rw [he] at h3; omega
    · omega
  have hjl : j < F.length := by omega
  refine ⟨hjl, ?_⟩
  have hjm : F[j] ∈ ord := (hmem _ (List.getElem_mem hjl)).1
  have hjS := h.lt _ hjm
  have hjT := h.tm1 _ hjm
  have hjb : tm F[j] > lastS F T t0 j := by
    unfold lastS
    by_cases e : j = 0
    · rw [if_pos e]
      have := (hmem _ (List.getElem_mem hjl)).2
      omega
    · rw [if_neg e, List.getElem?_eq_getElem (by omega)]
      have := (List.pairwise_iff_getElem.1 hpw) (j - 1) j (by omega) hjl (by omega)
      show tm F[j] > T F[j - 1]; omega
  have h5 := h2 _ hjS hjb
  by_cases e : m = j
  · subst e; exact he
  · have := (List.pairwise_iff_getElem.1 hpw) j m hjl hm (by omega)
    rw [he] at this; omega
theorem LS.stop (h : LS S ord T now tm) {t0 : Int} (h0 : 0 ≤ t0) (hj : j ≤ (ord.filter fun a => decide (T a > t0)).length) (h2 : ∀ x, x < S → ¬ tm x > lastS (ord.filter fun a => decide (T a > t0)) T t0 j) : j = (ord.filter fun a => decide (T a > t0)).length := by
  obtain ⟨F, hF⟩ : ∃ F, (ord.filter fun a => decide (T a > t0)) = F := ⟨_, rfl⟩
  rw [hF] at hj h2 ⊢
  have hpw : F.Pairwise fun a b => T a < T b := by rw [← hF]; exact h.pw.filter _
  have hmem : ∀ x ∈ F, x ∈ ord ∧ T x > t0 := by
    intro x hx; rw [← hF, List.mem_filter] at hx; exact ⟨hx.1, of_decide_eq_true hx.2⟩
  by_cases hjl : j < F.length
  · exfalso
    have hjm := hmem _ (List.getElem_mem hjl)
    have hjT := h.tm1 _ hjm.1
    refine h2 _ (h.lt _ hjm.1) ?_
    unfold lastS
    by_cases e : j = 0
    · rw [if_pos e]; have := hjm.2; omega
    · rw [if_neg e, List.getElem?_eq_getElem (by omega)]
      have := (List.pairwise_iff_getElem.1 hpw) (j - 1) j (by omega) hjl (by omega)
      show tm F[j] > T F[j - 1]; omega
  · omega
theorem lastS_next {F : List Nat} {t0 : Int} {y : Nat} (hl : j < F.length) (hy : F[j] = y) : lastS F T t0 (j + 1) = T y := by
  unfold lastS
  rw [if_neg (by omega), Nat.add_sub_cancel, List.getElem?_eq_getElem hl, hy]; rfl
theorem LS.since (h : LS S ord T now tm) {t : Int} : (ord.filter fun a => decide (T a > max t 0)) = ord.filter fun a => decide (T a > t) := by
  refine List.filter_congr fun x hx => ?_
  have := (h.bd x hx).1
  exact decide_eq_decide.2 (by constructor <;> intro h <;> omega)
end
end Go.Proofs.Ytojeibjlkbffcaa.Sx
