/-
  What lies under a beginning: each once, no more than there are keys. Nothing of a program stands here.
-/
import Derived.Test.YtmcfmhiadlkglaaTrie9
namespace Go.Proofs.Ytmcfmhiadlkglaa.Sx
open Go
set_option linter.unusedVariables false
set_option linter.unusedSimpArgs false
theorem undL_mem {c : List Int → Nat} : ∀ {d : Nat} {p q : List Int}, q ∈ undL c d p → q.length = p.length + d ∧ q.take p.length = p ∧ (d = 0 ∨ 0 < c q)
  | 0, p, q, h => by
    have hq : q = p := by simpa [undL] using h
    subst hq
    exact ⟨rfl, List.take_of_length_le (Nat.le_refl _), .inl rfl⟩
  | d + 1, p, q, h => by
    unfold undL at h
    obtain ⟨x, hx, hq⟩ := List.mem_flatMap.1 h
    by_cases hc : 0 < c (p ++ [(x : Int)])
    · rw [if_pos hc] at hq
      obtain ⟨h1, h2, h3⟩ := undL_mem hq
      rw [List.length_append] at h1 h2
      refine ⟨by simp at h1; omega, ?_, .inr ?_⟩
      · have h4 := congrArg (fun u => u.take p.length) h2
        simpa [List.take_take] using h4
      · rcases h3 with h3 | h3
        · subst h3
          have hq2 : q = p ++ [(x : Int)] := by simpa [undL] using hq
          rw [hq2]; exact hc
        · exact h3
    · rw [if_neg hc] at hq; simp at hq
theorem undL_nodup {c : List Int → Nat} : ∀ {d : Nat} {p : List Int}, (undL c d p).Nodup
  | 0, p => by simp [undL]
  | d + 1, p => by
    have key : ∀ x, (undX c d p x).Nodup ∧ ∀ q ∈ undX c d p x, ∃ y : Nat, y < x ∧ q.take (p.length + 1) = p ++ [(y : Int)] := by
      intro x
      induction x with
      | zero => exact ⟨by simp [undX], fun q h => by simp [undX] at h⟩
      | succ x ih =>
        rw [undX_succ]
        by_cases hc : 0 < c (p ++ [(x : Int)])
        · rw [if_pos hc]
          have hm : ∀ q ∈ undL c d (p ++ [(x : Int)]), q.take (p.length + 1) = p ++ [(x : Int)] := fun q hq => by
            have h1 := (undL_mem hq).2.1
            rw [List.length_append] at h1
            exact h1
          refine ⟨?_, fun q hq => ?_⟩
          · rw [List.nodup_append]
            refine ⟨ih.1, undL_nodup, fun a ha b hb e => ?_⟩
            obtain ⟨y, hy, h2⟩ := ih.2 a ha
            have h3 := hm b hb
            rw [← e, h2] at h3
            have h4 := List.append_cancel_left h3
            simp at h4; omega
          · rcases List.mem_append.1 hq with hq | hq
            · obtain ⟨y, hy, h2⟩ := ih.2 q hq
              exact ⟨y, by omega, h2⟩
            · exact ⟨x, by omega, hm q hq⟩
        · rw [if_neg hc, List.append_nil]
          exact ⟨ih.1, fun q hq => let ⟨y, hy, h2⟩ := ih.2 q hq; ⟨y, by omega, h2⟩⟩
    rw [← undX_all]
    exact (key 16).1
theorem cK_some {K : List (Ky × Int)} {q : List Int} (hl : q.length = 26) (h : 0 < cK K q) : ∃ e ∈ K, dl e.1 = q := by
  unfold cK at h
  rw [List.countP_pos_iff] at h
  obtain ⟨e, he, hp⟩ := h
  rw [isPrefix_iff, hl, List.take_of_length_le (by rw [dl_len]; omega)] at hp
  exact ⟨e, he, hp.symm⟩
theorem undL_le {K : List (Ky × Int)} {d : Nat} {p : List Int} (hl : p.length + d = 26) (hc : 0 < cK K p) : (undL (cK K) d p).length ≤ K.length := by
  have h1 := nodup_le2 (l1 := undL (cK K) d p) (l2 := K.map fun e => dl e.1) undL_nodup fun q hq => by
    obtain ⟨h1, h2, h3⟩ := undL_mem hq
    have h4 : 0 < cK K q := by
      rcases h3 with h3 | h3
      · subst h3
        have hq2 : q = p := by simpa [undL] using hq
        rw [hq2]; exact hc
      · exact h3
    obtain ⟨e, he, hd⟩ := cK_some (by omega) h4
    exact List.mem_map.2 ⟨e, he, hd⟩
  simpa using h1
end Go.Proofs.Ytmcfmhiadlkglaa.Sx
