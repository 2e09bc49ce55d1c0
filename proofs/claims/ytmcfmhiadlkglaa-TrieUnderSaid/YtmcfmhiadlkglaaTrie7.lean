/-
  How many nodes a trie has. Nothing of a program stands here.
-/
import Derived.Test.YtmcfmhiadlkglaaTrie6
namespace Go.Proofs.Ytmcfmhiadlkglaa.Sx
open Go
set_option linter.unusedVariables false
def ddp : List (List Int) → List (List Int)
  | [] => []
  | x :: xs => if x ∈ ddp xs then ddp xs else x :: ddp xs
theorem mem_ddp {p : List Int} : ∀ {L : List (List Int)}, p ∈ ddp L ↔ p ∈ L
  | [] => Iff.rfl
  | x :: xs => by
    have ih := mem_ddp (p := p) (L := xs)
    unfold ddp
    split
    · rename_i h
      rw [ih, List.mem_cons]
      constructor
      · exact .inr
      · rintro (e | e)
        · subst e; exact mem_ddp.1 h
        · exact e
    · rw [List.mem_cons, List.mem_cons, ih]
theorem nodup_ddp : ∀ L : List (List Int), (ddp L).Nodup
  | [] => by simp [ddp]
  | x :: xs => by
    unfold ddp
    split
    · exact nodup_ddp xs
    · rename_i h; exact List.nodup_cons.2 ⟨h, nodup_ddp xs⟩
/-- How many beginnings there are. -/
def nodesOf (K : List (Ky × Int)) : Nat := (ddp (pres (K.map Prod.fst))).length
theorem pres_iff {ks : List Ky} {p : List Int} : p ∈ pres ks ↔ p = [] ∨ ∃ k ∈ ks, p.isPrefixOf (dl k) = true := by
  refine ⟨fun h => ?_, pres_mem⟩
  unfold pres at h
  rcases List.mem_cons.1 h with h | h
  · exact .inl h
  · right
    obtain ⟨k, hk, h2⟩ := List.mem_flatMap.1 h
    obtain ⟨i, hi, rfl⟩ := List.mem_map.1 h2
    exact ⟨k, hk, by rw [List.isPrefixOf_iff_prefix]; exact List.take_prefix _ _⟩
theorem pr_iff {K : List (Ky × Int)} {p : List Int} : Pr (cK K) p ↔ p ∈ pres (K.map Prod.fst) := by
  rw [pres_iff]
  unfold Pr cK
  rw [List.countP_pos_iff]
  constructor
  · rintro (h | ⟨e, he, h⟩)
    · exact .inl h
    · exact .inr ⟨e.1, List.mem_map_of_mem he, h⟩
  · rintro (h | ⟨k, hk, h⟩)
    · exact .inl h
    · obtain ⟨e, he, rfl⟩ := List.mem_map.1 hk
      exact .inr ⟨e, he, h⟩
theorem TW.count {T : Tr} {K : List (Ky × Int)} {most : Int} (h : TW T K most) : nodesOf K + T.free.length = T.nodes.length := by
  obtain ⟨f, hW, hF⟩ := h.wf
  have hP : ∀ p, p ∈ ddp (pres (K.map Prod.fst)) ↔ Pr (cK K) p := fun p => by rw [mem_ddp, pr_iff]
  have hnd : ((ddp (pres (K.map Prod.fst))).map f ++ T.free).Nodup := by
    rw [List.nodup_append]
    refine ⟨?_, hF.nodup, ?_⟩
    · have h1 := nodup_ddp (pres (K.map Prod.fst))
      have h2 : ∀ p ∈ ddp (pres (K.map Prod.fst)), Pr (cK K) p := fun p hp => (hP p).1 hp
      revert h1 h2
      generalize ddp (pres (K.map Prod.fst)) = L
      intro h1 h2
      induction L with
      | nil => simp
      | cons x L ih =>
        rw [List.nodup_cons] at h1
        rw [List.map_cons, List.nodup_cons]
        refine ⟨fun hm => ?_, ih h1.2 fun p hp => h2 p (List.mem_cons_of_mem _ hp)⟩
        obtain ⟨y, hy, e⟩ := List.mem_map.1 hm
        have := hW.inj y x (h2 y (List.mem_cons_of_mem _ hy)) (h2 x List.mem_cons_self) e
        exact h1.1 (this ▸ hy)
    · rintro a ha b hb rfl
      obtain ⟨p, hp, rfl⟩ := List.mem_map.1 ha
      exact hF.no p ((hP p).1 hp) hb
  have l1 := nodup_le2 (l2 := List.range T.nodes.length) hnd fun x hx => by
    rw [List.mem_range]
    rcases List.mem_append.1 hx with hx | hx
    · obtain ⟨p, hp, rfl⟩ := List.mem_map.1 hx
      exact hW.lt p ((hP p).1 hp)
    · exact hF.lt x hx
  have l2 := nodup_le2 (l1 := List.range T.nodes.length) (l2 := (ddp (pres (K.map Prod.fst))).map f ++ T.free) List.nodup_range fun x hx => by
    rw [List.mem_range] at hx
    rw [List.mem_append]
    rcases hF.all x hx with h9 | ⟨p, hp, e⟩
    · exact .inr h9
    · exact .inl (List.mem_map.2 ⟨p, (hP p).2 hp, e⟩)
  simp only [List.length_append, List.length_map, List.length_range] at l1 l2
  unfold nodesOf
  omega
theorem findV_no {K : List (Ky × Int)} {k : Ky} (h : ¬ has K k) : findV K k = none := by
  cases e : findV K k with
  | none => rfl
  | some x => exact absurd (findV_some.1 (by rw [e]; rfl)) h
theorem findV_snoc {K : List (Ky × Int)} {k : Ky} {x : Int} (h : ¬ has K k) : findV (K ++ [(k, x)]) k = some x := by
  have h1 := findV_no h
  unfold findV at h1 ⊢
  rw [List.find?_append]
  rw [Option.map_eq_none_iff] at h1
  rw [h1]; simp
theorem putE_new {K : List (Ky × Int)} {k : Ky} {most : Int} (h : ¬ has K k) (hl : (K.length : Int) < most) : putE K k most = 0 := by
  rw [putE, if_neg (fun e => h (findV_some.1 e)), if_neg (by omega)]
theorem putK_new {K : List (Ky × Int)} {k : Ky} {x most : Int} (h : ¬ has K k) (hl : (K.length : Int) < most) : putK K k x most = K ++ [(k, x)] := by
  rw [putK, if_neg (fun e => h (findV_some.1 e)), if_neg (by omega)]
theorem putE_full {K : List (Ky × Int)} {k : Ky} {most : Int} (h : ¬ has K k) (hl : (K.length : Int) = most) : putE K k most = 4 := by
  rw [putE, if_neg (fun e => h (findV_some.1 e)), if_pos hl]
theorem putK_full {K : List (Ky × Int)} {k : Ky} {x most : Int} (h : ¬ has K k) (hl : (K.length : Int) = most) : putK K k x most = K := by
  rw [putK, if_neg (fun e => h (findV_some.1 e)), if_pos hl]
theorem putE_has {K : List (Ky × Int)} {k : Ky} {most : Int} (h : has K k) : putE K k most = 150 := by rw [putE, if_pos (findV_some.2 h)]
theorem putK_has {K : List (Ky × Int)} {k : Ky} {x most : Int} (h : has K k) : putK K k x most = K := by rw [putK, if_pos (findV_some.2 h)]
theorem outK_snoc {K : List (Ky × Int)} {k : Ky} {x : Int} (h : ¬ has K k) : outK (K ++ [(k, x)]) k = K := by
  have := outK_no h
  unfold outK at this ⊢
  rw [List.filter_append, this]; simp
end Go.Proofs.Ytmcfmhiadlkglaa.Sx
