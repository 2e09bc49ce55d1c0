/-
  The keys under a beginning: those that there are, each once. Nothing of a program stands here.
-/
import Derived.Test.YtmcfmhiadlkglaaTrie10
namespace Go.Proofs.Ytmcfmhiadlkglaa.Sx
open Go
set_option linter.unusedVariables false
set_option linter.unusedSimpArgs false
theorem cK_pre {K : List (Ky × Int)} {p q : List Int} (h : q.take p.length = p) (hc : 0 < cK K q) : 0 < cK K p := by
  unfold cK at hc ⊢
  rw [List.countP_pos_iff] at hc ⊢
  obtain ⟨e, he, hp⟩ := hc
  refine ⟨e, he, ?_⟩
  rw [List.isPrefixOf_iff_prefix] at hp ⊢
  have h2 : p <+: q := by rw [← h]; exact List.take_prefix _ _
  exact h2.trans hp
theorem undL_all {K : List (Ky × Int)} : ∀ {d : Nat} {p q : List Int}, q.length = p.length + d → q.take p.length = p → DigS q → 0 < cK K q → q ∈ undL (cK K) d p
  | 0, p, q, hl, hp, _, _ => by
    rw [List.take_of_length_le (by omega)] at hp
    simp [undL, hp]
  | d + 1, p, q, hl, hp, hd, hc => by
    have hlt : p.length < q.length := by omega
    have hx := hd _ (List.getElem_mem hlt)
    obtain ⟨x, hxe⟩ : ∃ x : Nat, q[p.length] = (x : Int) := ⟨(q[p.length]).toNat, by omega⟩
    have hx16 : x < 16 := by omega
    have h1 : q.take (p ++ [(x : Int)]).length = p ++ [(x : Int)] := by
      rw [List.length_append, show p.length + [(x : Int)].length = p.length + 1 from rfl, List.take_succ_eq_append_getElem hlt, hp, hxe]
    have h2 := cK_pre h1 hc
    unfold undL
    refine List.mem_flatMap.2 ⟨x, List.mem_range.2 hx16, ?_⟩
    rw [if_pos h2]
    exact undL_all (by rw [List.length_append]; simp; omega) h1 hd hc
def undK' (K : List (Ky × Int)) (k : Ky) (n : Int) : List Ky := if 0 ≤ n ∧ n ≤ 26 ∧ 0 < cK K ((dl k).take n.toNat) then (undL (cK K) (26 - n.toNat) ((dl k).take n.toNat)).map keyD else []
section
variable {K : List (Ky × Int)} {k k' : Ky} {n : Int}
theorem undL_key (hK : ∀ e ∈ K, WfK e.1) {d : Nat} {p q : List Int} (hl : p.length + d = 26) (hc : 0 < cK K p) (h : q ∈ undL (cK K) d p) : ∃ e ∈ K, dl e.1 = q ∧ keyD q = e.1 := by
  obtain ⟨h1, h2, h3⟩ := undL_mem h
  have h4 : 0 < cK K q := by
    rcases h3 with h3 | h3
    · subst h3
      have hq2 : q = p := by simpa [undL] using h
      rw [hq2]; exact hc
    · exact h3
  obtain ⟨e, he, hd⟩ := cK_some (by omega) h4
  exact ⟨e, he, hd, by rw [← hd, keyD_dl (hK e he)]⟩
theorem undK_mem (hK : ∀ e ∈ K, WfK e.1) (hk' : WfK k') : k' ∈ undK' K k n ↔ (0 ≤ n ∧ n ≤ 26) ∧ has K k' ∧ (dl k').take n.toNat = (dl k).take n.toNat := by
  unfold undK'
  constructor
  · intro h
    split at h
    · rename_i hc
      obtain ⟨q, hq, rfl⟩ := List.mem_map.1 h
      have hpl : ((dl k).take n.toNat).length = n.toNat := by rw [List.length_take, dl_len]; omega
      obtain ⟨e, he, hd, hke⟩ := undL_key hK (by rw [hpl]; omega) hc.2.2 hq
      have hm := (undL_mem hq).2.1
      rw [hpl] at hm
      refine ⟨⟨hc.1, hc.2.1⟩, ⟨e, he, hke.symm⟩, ?_⟩
      rw [hke, hd, hm]
    · simp at h
  · rintro ⟨hn, ⟨e, he, hek⟩, ht⟩
    have hpl : ((dl k).take n.toNat).length = n.toNat := by rw [List.length_take, dl_len]; omega
    have hcq : 0 < cK K (dl k') := (cK_full hk' hK).2 ⟨e, he, hek⟩
    have hcp : 0 < cK K ((dl k).take n.toNat) := cK_pre (q := dl k') (by rw [hpl]; exact ht) hcq
    rw [if_pos ⟨hn.1, hn.2, hcp⟩]
    refine List.mem_map.2 ⟨dl k', undL_all (by rw [hpl, dl_len]; omega) (by rw [hpl]; exact ht) (dl_dig k') hcq, keyD_dl hk'⟩
theorem undK_nodup (hK : ∀ e ∈ K, WfK e.1) : (undK' K k n).Nodup := by
  unfold undK'
  split
  · rename_i hc
    have hpl : ((dl k).take n.toNat).length = n.toNat := by rw [List.length_take, dl_len]; omega
    have key : ∀ {l : List (List Int)}, l.Nodup → (∀ q ∈ l, ∃ e ∈ K, dl e.1 = q ∧ keyD q = e.1) → (l.map keyD).Nodup := by
      intro l
      induction l with
      | nil => intro _ _; simp
      | cons q t ih =>
        intro hn hm
        rw [List.nodup_cons] at hn
        rw [List.map_cons, List.nodup_cons]
        refine ⟨fun hmem => ?_, ih hn.2 fun q' h' => hm q' (List.mem_cons_of_mem _ h')⟩
        obtain ⟨q', hq', e⟩ := List.mem_map.1 hmem
        obtain ⟨e1, _, h1, h2⟩ := hm q List.mem_cons_self
        obtain ⟨e2, _, h3, h4⟩ := hm q' (List.mem_cons_of_mem _ hq')
        have : q' = q := by rw [← h3, ← h1, ← h4, ← h2, e]
        exact hn.1 (by rw [← this]; exact hq')
    exact key undL_nodup fun q hq => undL_key hK (by rw [hpl]; omega) hc.2.2 hq
  · simp
end
/-! ### their order -/
def ltD (a b : List Int) : Prop := ∃ i, a.take i = b.take i ∧ ∃ x y, a[i]? = some x ∧ b[i]? = some y ∧ x < y
theorem undL_sorted {c : List Int → Nat} : ∀ {d : Nat} {p : List Int}, (undL c d p).Pairwise ltD
  | 0, p => by simp [undL]
  | d + 1, p => by
    have hm : ∀ {x : Nat} {q : List Int}, q ∈ undL c d (p ++ [(x : Int)]) → q.take p.length = p ∧ q[p.length]? = some (x : Int) := by
      intro x q hq
      have h1 := (undL_mem hq).2.1
      rw [List.length_append] at h1
      have h1' : q.take (p.length + 1) = p ++ [(x : Int)] := h1
      constructor
      · have h4 := congrArg (fun u => u.take p.length) h1'
        simpa [List.take_take] using h4
      · have h4 := congrArg (fun u => u[p.length]?) h1'
        simpa [List.getElem?_take] using h4
    have key : ∀ x, (undX c d p x).Pairwise ltD ∧ ∀ q ∈ undX c d p x, q.take p.length = p ∧ ∃ y : Nat, y < x ∧ q[p.length]? = some (y : Int) := by
      intro x
      induction x with
      | zero => exact ⟨by simp [undX], fun q h => by simp [undX] at h⟩
      | succ x ih =>
        rw [undX_succ]
        by_cases hc : 0 < c (p ++ [(x : Int)])
        · rw [if_pos hc]
          refine ⟨?_, fun q hq => ?_⟩
          · rw [List.pairwise_append]
            refine ⟨ih.1, undL_sorted, fun a ha b hb => ?_⟩
            obtain ⟨h2, y, hy, h3⟩ := ih.2 a ha
            obtain ⟨h4, h5⟩ := hm hb
            exact ⟨p.length, by rw [h2, h4], y, x, h3, h5, by omega⟩
          · rcases List.mem_append.1 hq with hq | hq
            · obtain ⟨h2, y, hy, h3⟩ := ih.2 q hq
              exact ⟨h2, y, by omega, h3⟩
            · exact ⟨(hm hq).1, x, by omega, (hm hq).2⟩
        · rw [if_neg hc, List.append_nil]
          exact ⟨ih.1, fun q hq => let ⟨h2, y, hy, h3⟩ := ih.2 q hq; ⟨h2, y, by omega, h3⟩⟩
    rw [← undX_all]
    exact (key 16).1
end Go.Proofs.Ytmcfmhiadlkglaa.Sx
