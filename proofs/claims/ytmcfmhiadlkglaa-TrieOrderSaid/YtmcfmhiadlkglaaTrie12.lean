/-
  How many nodes there are, and how many a search visits; keys taken out one after the other. Nothing of a program stands here.
-/
import Derived.Test.YtmcfmhiadlkglaaTrie11
namespace Go.Proofs.Ytmcfmhiadlkglaa.Sx
open Go
set_option linter.unusedVariables false
set_option linter.unusedSimpArgs false
theorem nodes_le {K : List (Ky × Int)} : nodesOf K ≤ 26 * K.length + 1 := by
  unfold nodesOf
  have h1 : (ddp (pres (K.map Prod.fst))).length ≤ (pres (K.map Prod.fst)).length := nodup_le2 (nodup_ddp _) fun x hx => mem_ddp.1 hx
  rw [pres_len, List.length_map] at h1
  exact h1
theorem nodes_mono {K M : List (Ky × Int)} : nodesOf K ≤ nodesOf (K ++ M) := by
  unfold nodesOf
  refine nodup_le2 (nodup_ddp _) fun x hx => mem_ddp.2 ?_
  have h := mem_ddp.1 hx
  unfold pres at h ⊢
  rw [List.map_append, List.flatMap_append]
  rcases List.mem_cons.1 h with h | h
  · rw [h]; exact List.mem_cons_self
  · exact List.mem_cons_of_mem _ (List.mem_append.2 (.inl h))
theorem steps_bd {K : List (Ky × Int)} {k : Ky} (hk : WfK k) (hK : ∀ e ∈ K, WfK e.1) : 1 ≤ findN (cK K) (dl k) 26 ∧ findN (cK K) (dl k) 26 ≤ 27 ∧ (findN (cK K) (dl k) 26 = 27 ↔ has K k) := by
  have h1 := dep_le (cK K) (dl k) 26
  have h2 := has_iff hk hK
  unfold findN
  refine ⟨by omega, by omega, ?_⟩
  rw [← h2]
  constructor
  · intro h; omega
  · intro h; rw [h]; rfl
/-- What is left when keys were taken out. -/
def outAll (K : List (Ky × Int)) (ks : List Ky) : List (Ky × Int) := K.filter fun e => !(ks.contains e.1)
theorem outAll_nil {K : List (Ky × Int)} : outAll K [] = K := by
  unfold outAll
  rw [List.filter_eq_self]
  intro e _; simp
theorem outAll_snoc {K : List (Ky × Int)} {ks : List Ky} {k : Ky} : outK (outAll K ks) k = outAll K (ks ++ [k]) := by
  unfold outK outAll
  rw [List.filter_filter]
  congr 1
  funext e
  by_cases h1 : e.1 = k
  · simp [h1]
  · by_cases h2 : e.1 ∈ ks
    · simp [h1, h2]
    · simp [h1, h2]
theorem outAll_has {K : List (Ky × Int)} {ks : List Ky} {k : Ky} (h : has K k) (hn : k ∉ ks) : has (outAll K ks) k := by
  obtain ⟨e, he, hk⟩ := h
  refine ⟨e, ?_, hk⟩
  unfold outAll
  rw [List.mem_filter]
  exact ⟨he, by rw [hk]; simpa using hn⟩
theorem outAll_all {K : List (Ky × Int)} {ks : List Ky} (h : ∀ e ∈ K, e.1 ∈ ks) : outAll K ks = [] := by
  unfold outAll
  rw [List.filter_eq_nil_iff]
  intro e he
  simpa using h e he
end Go.Proofs.Ytmcfmhiadlkglaa.Sx
