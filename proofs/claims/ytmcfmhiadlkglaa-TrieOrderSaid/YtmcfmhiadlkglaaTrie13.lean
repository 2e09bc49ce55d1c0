/-
  What stays true when keys are put; keys put and taken out in the opposite order. Nothing of a program stands here.
-/
import Derived.Test.YtmcfmhiadlkglaaTrie12
namespace Go.Proofs.Ytmcfmhiadlkglaa.Sx
open Go
set_option linter.unusedVariables false
set_option linter.unusedSimpArgs false
structure KI (K : List (Ky × Int)) (n : Nat) : Prop where
  le : K.length ≤ n
  nd : (K.map Prod.fst).Nodup
  wf : ∀ e ∈ K, WfK e.1
theorem KI.nil : KI [] 0 := ⟨Nat.le_refl _, by simp, by simp⟩
theorem KI.snoc {K : List (Ky × Int)} {n : Nat} {k : Ky} {x : Int} (h : KI K n) (hk : WfK k) (hn : ¬ has K k) : KI (K ++ [(k, x)]) (n + 1) := by
  refine ⟨by rw [List.length_append]; have := h.le; simp; omega, ?_, ?_⟩
  · rw [List.map_append, List.nodup_append]
    refine ⟨h.nd, by simp, fun a ha b hb e => ?_⟩
    simp only [List.map_cons, List.map_nil, List.mem_singleton] at hb
    obtain ⟨e', he, h9⟩ := List.mem_map.1 ha
    exact hn ⟨e', he, by rw [h9, e, hb]⟩
  · intro e he
    rcases List.mem_append.1 he with h1 | h1
    · exact h.wf e h1
    · simp only [List.mem_singleton] at h1; subst h1; exact hk
theorem KI.mono {K : List (Ky × Int)} {n m : Nat} (h : KI K n) (hm : n ≤ m) : KI K m := ⟨Nat.le_trans h.le hm, h.nd, h.wf⟩
theorem KI.put {K : List (Ky × Int)} {n : Nat} {k : Ky} {x most : Int} (h : KI K n) (hk : WfK k) : KI (putK K k x most) (n + 1) := by
  unfold putK
  split
  · exact h.mono (by omega)
  · split
    · exact h.mono (by omega)
    · refine h.snoc hk fun hh => ?_
      rename_i h1 _
      exact h1 (findV_some.2 hh)
theorem putK_mem {K : List (Ky × Int)} {k : Ky} {x most : Int} (hl : (K.length : Int) < most) (k' : Ky) : has (putK K k x most) k' ↔ has K k' ∨ k' = k := by
  by_cases hh : has K k
  · rw [putK_has hh]
    constructor
    · exact .inl
    · rintro (h | rfl)
      · exact h
      · exact hh
  · rw [putK_new hh hl]
    constructor
    · rintro ⟨e, he, h9⟩
      rcases List.mem_append.1 he with h1 | h1
      · exact .inl ⟨e, h1, h9⟩
      · simp only [List.mem_singleton] at h1; subst h1; exact .inr h9.symm
    · rintro (⟨e, he, h9⟩ | rfl)
      · exact ⟨e, List.mem_append.2 (.inl he), h9⟩
      · exact ⟨(k', x), by simp, rfl⟩
/-- Keys with the value -1. -/
abbrev neg (ps : List Ky) : List (Ky × Int) := ps.map fun k => (k, -1)
theorem neg_snoc {K : List (Ky × Int)} {ps : List Ky} {k : Ky} : (K ++ neg ps) ++ [(k, -1)] = K ++ neg (ps ++ [k]) := by simp [neg]
theorem neg_take {ps : List Ky} {j : Nat} (h : j < ps.length) : neg (ps.take (j + 1)) = neg (ps.take j) ++ [(ps[j], -1)] := by
  rw [List.take_succ_eq_append_getElem h, neg, List.map_append]; rfl
theorem KI.nots {K : List (Ky × Int)} {n j : Nat} {ps : List Ky} (h : KI (K ++ neg ps) n) (hj : j < ps.length) : ¬ has (K ++ neg (ps.take j)) ps[j] := by
  have h1 : (K ++ neg ps) = (K ++ neg (ps.take j)) ++ ((ps[j], -1) :: neg (ps.drop (j + 1))) := by
    rw [List.append_assoc]
    congr 1
    rw [show ((ps[j], (-1 : Int)) :: neg (ps.drop (j + 1))) = neg (ps.drop j) from by rw [List.drop_eq_getElem_cons hj]; rfl, ← List.map_append, List.take_append_drop]
  have h2 := h.nd
  rw [h1, List.map_append, List.nodup_append] at h2
  rintro ⟨e, he, h9⟩
  exact h2.2.2 e.1 (List.mem_map.2 ⟨e, he, rfl⟩) ps[j] (by simp) h9
theorem KI.out {K : List (Ky × Int)} {n j : Nat} {ps : List Ky} (h : KI (K ++ neg ps) n) (hj : j < ps.length) :
    findV (K ++ neg (ps.take (j + 1))) ps[j] = some (-1) ∧ outK (K ++ neg (ps.take (j + 1))) ps[j] = K ++ neg (ps.take j) := by
  have hn := h.nots hj
  rw [neg_take hj, ← List.append_assoc]
  exact ⟨findV_snoc hn, outK_snoc hn⟩
theorem nodes_nil : nodesOf [] = 1 := by decide +kernel
theorem und_has {K : List (Ky × Int)} {k : Ky} {n : Int} (hK : ∀ e ∈ K, WfK e.1) {y : Ky} (h : y ∈ undK' K k n) : has K y ∧ WfK y := by
  unfold undK' at h
  split at h
  · rename_i hc
    obtain ⟨q, hq, rfl⟩ := List.mem_map.1 h
    obtain ⟨e, he, h1, h2⟩ := undL_key hK (by rw [List.length_take, dl_len]; omega) hc.2.2 hq
    exact ⟨⟨e, he, h2.symm⟩, by rw [h2]; exact hK e he⟩
  · simp at h
theorem und_len {K : List (Ky × Int)} {k : Ky} {n : Int} (hK : ∀ e ∈ K, WfK e.1) : (undK' K k n).length ≤ K.length := by
  have h := nodup_le2 (l2 := K.map Prod.fst) (undK_nodup (k := k) (n := n) hK) fun y hy => by
    obtain ⟨e, he, h9⟩ := (und_has hK hy).1
    exact List.mem_map.2 ⟨e, he, h9⟩
  rwa [List.length_map] at h
theorem und_all {K : List (Ky × Int)} (hK : ∀ e ∈ K, WfK e.1) {e : Ky × Int} (he : e ∈ K) : e.1 ∈ undK' K (0, 0, 0, 0, 0) 0 :=
  (undK_mem hK (hK e he)).2 ⟨⟨by omega, by omega⟩, ⟨e, he, rfl⟩, rfl⟩
theorem nodup_not {α : Type} {xs : List α} (h : xs.Nodup) {i : Nat} (hi : i < xs.length) : xs[i] ∉ xs.take i := by
  intro hm
  obtain ⟨j, hj, h1⟩ := List.getElem_of_mem hm
  rw [List.length_take] at hj
  rw [List.getElem_take] at h1
  exact List.pairwise_iff_getElem.1 h j i (by omega) hi (by omega) h1
theorem n27 {x : Int} {K : List (Ky × Int)} {k : Ky} (h : x = 27 ↔ has K k) : decide (x = 27) = (findV K k).isSome := by
  by_cases hh : has K k
  · rw [findV_some.2 hh, h.2 hh]; rfl
  · rw [findV_no hh]
    exact decide_eq_false fun e => hh (h.1 e)
structure AllK (K : List (Ky × Int)) (ks : List Ky) : Prop where
  nd : ks.Nodup
  has : ∀ y ∈ ks, Sx.has K y ∧ WfK y
  all : ∀ e ∈ K, e.1 ∈ ks
  le : ks.length ≤ K.length
theorem AllK.of {K : List (Ky × Int)} (hK : ∀ e ∈ K, WfK e.1) : AllK K (undK' K (0, 0, 0, 0, 0) 0) := ⟨undK_nodup hK, fun y h => und_has hK h, fun e h => und_all hK h, und_len hK⟩
theorem AllK.left {K : List (Ky × Int)} {ks : List Ky} (h : AllK K ks) {i : Nat} (hi : i < ks.length) : Sx.has (outAll K (ks.take i)) ks[i] := outAll_has (h.has _ (List.getElem_mem _)).1 (nodup_not h.nd hi)
end Go.Proofs.Ytmcfmhiadlkglaa.Sx
