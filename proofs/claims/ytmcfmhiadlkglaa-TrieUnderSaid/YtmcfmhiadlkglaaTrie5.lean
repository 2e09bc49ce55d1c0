/-
  Tries as maps, in memory. Nothing of a program stands here.
-/
import Derived.Test.YtmcfmhiadlkglaaTrie4
namespace Go.Proofs.Ytmcfmhiadlkglaa.Sx
open Go
set_option linter.unusedVariables false
def trieA (TA TN TI b : Nat) (K : List (Ky × Int)) (most : Int) : HP := box (fun x : Tr × TrX => TW x.1 K most) (fun x => trieL TA TN TI b x.1 x.2)
theorem Sep.trieAE {TA TN TI b : Nat} {K : List (Ky × Int)} {most : Int} {l : List HP} {w : World} (h : Sep (trieA TA TN TI b K most :: l) w) :
    ∃ T r1 c1 r2 c2, TW T K most ∧ Sep (blk b [.slice r1 T.nodes.length c1, .slice r2 T.frees.length c2, .int .i64 T.most] TA :: sls r1 T.nodes.length c1 TN 18 (T.nodes.flatMap eN) :: sls r2 T.frees.length c2 TI 1 (T.frees.flatMap e1) :: l) w :=
  let ⟨x, h1, h2⟩ := h.boxE
  ⟨x.1, x.2.1.1, x.2.1.2, x.2.2.1, x.2.2.2, h1, h2⟩
theorem Sep.trieAI {TA TN TI b n1 n2 : Nat} {K : List (Ky × Int)} {most : Int} {T : Tr} {r1 r2 : Option Addr} {c1 c2 : Nat} {l : List HP} {w : World} (hT : TW T K most) (h1 : n1 = T.nodes.length) (h2 : n2 = T.frees.length)
    (h : Sep (blk b [.slice r1 n1 c1, .slice r2 n2 c2, .int .i64 T.most] TA :: sls r1 n1 c1 TN 18 (T.nodes.flatMap eN) :: sls r2 n2 c2 TI 1 (T.frees.flatMap e1) :: l) w) : Sep (trieA TA TN TI b K most :: l) w := by
  subst h1 h2
  exact Sep.boxI (T, (r1, c1), (r2, c2)) hT h
theorem Sep.slsTake {α : Type} {enc : α → List Value} {xs : List α} {r : Option Addr} {n c sz k : Nat} {T : TypeId} {l : List HP} {w : World} (h : Sep (sls r n c T sz (xs.flatMap enc) :: l) w) (hm : ∀ x, (enc x).length = sz) (hn : n = xs.length) (hk : k ≤ n) : Sep (sls r k c T sz ((xs.take k).flatMap enc) :: l) w := by
  subst hn
  rcases h.slsE with ⟨h1, h2, h3, h4, h5⟩ | ⟨b, rest, h1, h2, h3, h4, h5⟩
  · subst h1 h3
    obtain rfl : k = 0 := by omega
    simpa using h5.slsNil
  · subst h1
    have e : xs.flatMap enc = (xs.take k).flatMap enc ++ (xs.drop k).flatMap enc := by rw [← List.flatMap_append, List.take_append_drop]
    have hl := flat_len hm (xs.take k)
    rw [List.length_take, Nat.min_eq_left hk] at hl
    have hl2 := congrArg List.length e
    rw [List.length_append] at hl2
    refine Sep.slsI (rest := (xs.drop k).flatMap enc ++ rest) ?_ hl ?_ (by omega)
    · rw [← List.append_assoc, ← e]; exact h5
    · rw [List.length_append]; omega
theorem wfk0 : WfK (0, 0, 0, 0, 0) := by constructor <;> decide
theorem TW.pos {T : Tr} {K : List (Ky × Int)} {most : Int} (h : TW T K most) : 0 < T.nodes.length := by
  obtain ⟨f, hW, _⟩ := h.wf
  have := hW.lt [] hW.droot
  omega
theorem TW.new {most : Int} (h1 : 1 ≤ most) (h2 : most ≤ 8192) : TW { nodes := [z0], free := [], most := most } [] most := by
  have hP : ∀ p, Pr (cK []) p → p = [] := by
    intro p hp
    rcases hp with h | h
    · exact h
    · simp [cK] at h
  refine ⟨⟨fun _ => 0, ⟨rfl, .inl rfl, fun p _ => by simp, fun p q hp hq _ => by rw [hP p hp, hP q hq], ?_, ?_, ?_, fun p hp => .inr hp⟩, ⟨by simp, by simp, by simp, ?_⟩⟩, rfl, ⟨by simp; omega, h2⟩, by simp, by simp, by simp⟩
  · intro p x hp hx
    simp only [List.getElem?_cons_zero, Option.some.injEq] at hx
    subst hx; rw [hP p hp]; rfl
  · intro p x d hp hx hl h0 h1
    simp only [List.getElem?_cons_zero, Option.some.injEq] at hx
    subst hx
    rw [if_neg (by simp [cK])]; rfl
  · intro p x hp hl hx
    rw [hP p hp] at hl; simp at hl
  · intro i hi
    simp at hi
    exact .inr ⟨[], .inl rfl, hi.symm⟩
/-- The beginnings of keys. -/
def pres (ks : List Ky) : List (List Int) := [] :: ks.flatMap fun k => (List.range 26).map fun i => (dl k).take (i + 1)
theorem pres_len (ks : List Ky) : (pres ks).length = 26 * ks.length + 1 := by
  unfold pres
  rw [List.length_cons]
  congr 1
  induction ks with
  | nil => rfl
  | cons k ks ih => rw [List.flatMap_cons, List.length_append, ih]; simp; omega
theorem pres_mem {ks : List Ky} {p : List Int} (h : p = [] ∨ ∃ k ∈ ks, p.isPrefixOf (dl k) = true) : p ∈ pres ks := by
  unfold pres
  rcases h with h | ⟨k, hk, hp⟩
  · rw [h]; exact List.mem_cons_self
  · by_cases e : p = []
    · rw [e]; exact List.mem_cons_self
    · refine List.mem_cons_of_mem _ (List.mem_flatMap.2 ⟨k, hk, List.mem_map.2 ?_⟩)
      rw [isPrefix_iff] at hp
      have hl : p.length ≤ 26 := by rw [hp, List.length_take, dl_len]; omega
      have h0 : 0 < p.length := List.length_pos_iff.2 e
      exact ⟨p.length - 1, by rw [List.mem_range]; omega, by rw [show p.length - 1 + 1 = p.length from by omega]; exact hp.symm⟩
theorem nodup_le2 {α : Type} [DecidableEq α] : ∀ {l1 l2 : List α}, l1.Nodup → (∀ x ∈ l1, x ∈ l2) → l1.length ≤ l2.length
  | [], _, _, _ => by simp
  | x :: l1, l2, h, hs => by
    rw [List.nodup_cons] at h
    have hx : x ∈ l2 := hs x List.mem_cons_self
    have h1 := nodup_le2 (l1 := l1) (l2 := l2.erase x) h.2 fun y hy => by
      have hne : y ≠ x := fun e => h.1 (e ▸ hy)
      exact (List.mem_erase_of_ne hne).2 (hs y (List.mem_cons_of_mem _ hy))
    have h2 := List.length_erase_of_mem hx
    have h3 : 0 < l2.length := List.length_pos_of_mem hx
    simp only [List.length_cons]; omega
/-- There are no more nodes than beginnings, if none is free. -/
theorem nodes_bd {ns : List Nd} {D : List Int → Prop} {f : List Int → Nat} {ks : List Ky} (h : FreeOK ns [] D f) (hD : ∀ p, D p → p = [] ∨ ∃ k ∈ ks, p.isPrefixOf (dl k) = true) : ns.length ≤ 26 * ks.length + 1 := by
  have h1 : (List.range ns.length).length ≤ ((pres ks).map f).length := nodup_le2 List.nodup_range fun i hi => by
    rw [List.mem_range] at hi
    rcases h.all i hi with h9 | ⟨p, hp, e⟩
    · simp at h9
    · exact List.mem_map.2 ⟨p, pres_mem (hD p hp), e⟩
  rw [List.length_range, List.length_map, pres_len] at h1
  exact h1
theorem PutI.bd {T : Tr} {K : List (Ky × Int)} {most : Int} {k : Ky} {i a : Nat} {f : List Int → Nat} (h : PutI K k most i a T f) (hK : (K.length : Int) ≤ 8192) (hf : T.free = []) : T.nodes.length ≤ 300000 := by
  have h2 := h.fr
  rw [hf] at h2
  have := nodes_bd (ks := k :: K.map (·.1)) h2 fun p hp => by
    rcases hp with e | e
    · exact .inl e
    · right
      unfold cP at e
      by_cases hb : bg (dl k) i p
      · exact ⟨k, List.mem_cons_self, isPrefix_iff.2 hb.2⟩
      · rw [if_neg hb] at e
        obtain ⟨x, hx, hp⟩ := List.countP_pos_iff.1 (show 0 < cK K p by omega)
        exact ⟨x.1, List.mem_cons_of_mem _ (List.mem_map_of_mem hx), hp⟩
  simp at this
  omega
/-- The key is in, and its value. -/
theorem PutI.done {T : Tr} {K : List (Ky × Int)} {most : Int} {k : Ky} {a : Nat} {f : List Int → Nat} (h : PutI K k most 26 a T f) (hT : ∀ e ∈ K, WfK e.1) (hnd : (K.map Prod.fst).Nodup) (hk : WfK k) (hn : ¬ has K k) (hb : (K.length : Int) < most) (hm : most ≤ 8192) (hnb : T.nodes.length ≤ 300001) (x : Int) {nd : Nd} (hg : T.nodes[a]? = some nd) :
    TW { T with nodes := T.nodes.set a (nd.1, nd.2.1, x) } (K ++ [(k, x)]) most := by
  have hds : (dl k).take 26 = dl k := List.take_of_length_le (by rw [dl_len]; omega)
  have ha := h.at'
  rw [hds] at ha
  have hlt := (List.getElem?_eq_some_iff.1 hg).1
  have hDk : Pr (cP (cK K) (dl k) 26) (dl k) := by
    right; unfold cP; rw [if_pos (show bg (dl k) 26 (dl k) from ⟨by rw [dl_len]; omega, by rw [dl_len]; exact hds.symm⟩)]; omega
  have hget : ∀ p, Pr (cP (cK K) (dl k) 26) p → ∀ y, (T.nodes.set a (nd.1, nd.2.1, x))[f p]? = some y → (p = dl k ∧ y = (nd.1, nd.2.1, x)) ∨ (p ≠ dl k ∧ T.nodes[f p]? = some y) := by
    intro p hp y hy
    by_cases e : p = dl k
    · subst e
      rw [ha, List.getElem?_set_self (by rw [← ha]; exact hlt)] at hy
      exact .inl ⟨rfl, (Option.some.inj hy).symm⟩
    · rw [ha, List.getElem?_set_ne (fun e2 => e (h.wf.inj _ _ hp hDk e2.symm))] at hy
      exact .inr ⟨e, hy⟩
  have hgk : T.nodes[f (dl k)]? = some nd := by rw [← ha]; exact hg
  have hkeys : ∀ e ∈ K ++ [(k, x)], WfK e.1 := by
    intro e he
    rcases List.mem_append.1 he with h9 | h9
    · exact hT e h9
    · simp only [List.mem_singleton] at h9; subst h9; exact hk
  have hc : cK (K ++ [(k, x)]) = cP (cK K) (dl k) 26 := funext (cP_all K k x)
  refine ⟨⟨f, ?_, ?_⟩, h.mo, ⟨by simp; omega, hm⟩, hkeys, ?_, by simpa using hnb⟩
  · rw [hc]
    refine ⟨h.wf.root, h.wf.droot, fun p hp => by rw [List.length_set]; exact h.wf.lt p hp, h.wf.inj, ?_, ?_, ?_, h.wf.up⟩
    · intro p y hp hy
      rcases hget p hp y hy with ⟨rfl, rfl⟩ | ⟨_, hy⟩
      · exact h.wf.cnt _ nd hp hgk
      · exact h.wf.cnt p y hp hy
    · intro p y d hp hy
      rcases hget p hp y hy with ⟨rfl, rfl⟩ | ⟨_, hy⟩
      · exact h.wf.nxt _ nd d hp hgk
      · exact h.wf.nxt p y d hp hy
    · intro p y hp hl hy
      rcases hget p hp y hy with ⟨rfl, rfl⟩ | ⟨hne, hy⟩
      · rw [vK2_eq hk hkeys]
        unfold findV
        rw [List.find?_append]
        have : K.find? (fun e => e.1 == k) = none := by
          rw [List.find?_eq_none]
          intro e he hb2
          exact hn ⟨e, he, by simpa using hb2⟩
        rw [this]; simp
      · have := h.wf.val p y hp hl hy
        rw [if_neg hne] at this
        rw [this]
        unfold vK2
        rw [List.find?_append]
        have h5 : ([(k, x)] : List (Ky × Int)).find? (fun e => dl e.1 == p) = none := by
          rw [List.find?_eq_none]
          intro e he hb2
          simp only [List.mem_singleton] at he; subst he
          exact hne (by simpa using (beq_iff_eq.1 hb2).symm)
        rw [h5]; simp
  · rw [hc]; exact h.fr.sets _ (by simp)
  · rw [List.map_append, List.nodup_append]
    refine ⟨hnd, by simp, fun p hp q hq => ?_⟩
    simp only [List.map_cons, List.map_nil, List.mem_singleton] at hq
    subst hq
    rintro rfl
    obtain ⟨e, he, e2⟩ := List.mem_map.1 hp
    exact hn ⟨e, he, e2⟩
/-- One digit further: what is in the nodes before the count is raised. -/
structure PutM (K : List (Ky × Int)) (k : Ky) (most : Int) (i nx : Nat) (N : List Nd) (F : List Nat) (mo : Int) : Prop where
  lt : nx < N.length
  cnt : 0 ≤ (N[nx]'lt).1 ∧ (N[nx]'lt).1 ≤ 8192
  fin : ∃ f, PutI K k most (i + 1) nx { nodes := N.set nx ((N[nx]'lt).1 + 1, (N[nx]'lt).2.1, (N[nx]'lt).2.2), free := F, most := mo } f
theorem PutI.mOld {T : Tr} {K : List (Ky × Int)} {most : Int} {k : Ky} {i a : Nat} {f : List Int → Nat} (h : PutI K k most i a T f) (hi : i < 26) (hK : (K.length : Int) ≤ 8192) (hc : 0 < cK K ((dl k).take (i + 1))) : PutM K k most i (f ((dl k).take (i + 1))) T.nodes T.free T.most := by
  have hds : i < (dl k).length := by rw [dl_len]; exact hi
  obtain ⟨_, _, h3⟩ := h.next hi
  have hlt := (h3 hc).2
  have hcq : cP (cK K) (dl k) i ((dl k).take (i + 1)) = cK K ((dl k).take (i + 1)) := by unfold cP; rw [if_neg (bg_not hds)]; rfl
  have hv := h.wf.cnt _ _ (.inr (by rw [hcq]; exact hc)) (List.getElem?_eq_getElem hlt)
  rw [hcq] at hv
  have := cK_le K ((dl k).take (i + 1))
  exact ⟨hlt, by omega, f, h.old hi hc (List.getElem?_eq_getElem hlt)⟩
theorem PutI.mNew {T : Tr} {K : List (Ky × Int)} {most : Int} {k : Ky} {i a : Nat} {f : List Int → Nat} (h : PutI K k most i a T f) (hi : i < 26) (hc : ¬ 0 < cK K ((dl k).take (i + 1))) : ∃ (hlt : a < (freshT T).nodes.length),
    PutM K k most i (freshI T) ((freshT T).nodes.set a (((freshT T).nodes[a]).1, updN ((freshT T).nodes[a]).2.1 (dig k i).toNat (freshI T), ((freshT T).nodes[a]).2.2)) (freshT T).free (freshT T).most := by
  obtain ⟨hlt, hne, hlf, f', hz, hP⟩ := h.new hi hc
  have hz2 : ((freshT T).nodes.set a (((freshT T).nodes[a]).1, updN ((freshT T).nodes[a]).2.1 (dig k i).toNat (freshI T), ((freshT T).nodes[a]).2.2))[freshI T]'(by simpa using hlf) = z0 := by
    rw [List.getElem_set_ne hne]; exact hz
  refine ⟨hlt, by simpa using hlf, by rw [hz2]; decide, f', ?_⟩
  rw [hz2]
  exact hP
theorem freshT_most (T : Tr) : (freshT T).most = T.most := by unfold freshT; split <;> rfl
theorem freshT_len {T : Tr} (h : T.nodes.length ≤ 300001) (hf : T.free = [] → T.nodes.length ≤ 300000) : (freshT T).nodes.length ≤ 300001 := by
  unfold freshT
  split
  · rename_i e; have := hf e; simp; omega
  · simpa using h
def putE (K : List (Ky × Int)) (k : Ky) (most : Int) : Int := if (findV K k).isSome = true then 150 else if (K.length : Int) = most then 4 else 0
def putK (K : List (Ky × Int)) (k : Ky) (x most : Int) : List (Ky × Int) := if (findV K k).isSome = true then K else if (K.length : Int) = most then K else K ++ [(k, x)]
end Go.Proofs.Ytmcfmhiadlkglaa.Sx
