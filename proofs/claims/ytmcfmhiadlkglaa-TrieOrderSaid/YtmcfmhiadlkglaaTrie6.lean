/-
  Tries: taking a key out, from beginning to end. Nothing of a program stands here.
-/
import Derived.Test.YtmcfmhiadlkglaaTrie5
namespace Go.Proofs.Ytmcfmhiadlkglaa.Sx
open Go
set_option linter.unusedVariables false
def outK (K : List (Ky × Int)) (k : Ky) : List (Ky × Int) := K.filter fun e => !(e.1 == k)
theorem outK_no {K : List (Ky × Int)} {k : Ky} (h : ¬ has K k) : outK K k = K := by
  unfold outK
  rw [List.filter_eq_self]
  intro e he
  simp only [Bool.not_eq_true', beq_eq_false_iff_ne, ne_eq]
  exact fun e2 => h ⟨e, he, e2⟩
theorem outK_has {K : List (Ky × Int)} {k : Ky} : ¬ has (outK K k) k := by
  rintro ⟨e, he, h⟩
  simp [outK, h] at he
theorem outK_count : ∀ {K : List (Ky × Int)} {k : Ky}, (K.map Prod.fst).Nodup → has K k → ∀ r, cK K r = cK (outK K k) r + if r.isPrefixOf (dl k) then 1 else 0
  | [], k, _, ⟨e, he, _⟩, _ => by simp at he
  | x :: K, k, hn, hh, r => by
    rw [List.map_cons, List.nodup_cons] at hn
    by_cases hx : x.1 = k
    · have hno : ¬ has K k := by
        rintro ⟨e, he, h⟩
        exact hn.1 (by rw [hx, ← h]; exact List.mem_map_of_mem he)
      have e1 : outK (x :: K) k = K := by
        have := outK_no hno
        unfold outK at this ⊢
        rw [List.filter_cons, if_neg (by simp [hx]), this]
      rw [e1]
      unfold cK
      rw [List.countP_cons, hx]
    · have hh2 : has K k := by
        obtain ⟨e, he, h⟩ := hh
        rcases List.mem_cons.1 he with h9 | h9
        · subst h9; exact absurd h hx
        · exact ⟨e, h9, h⟩
      have ih := outK_count hn.2 hh2 r
      have e1 : outK (x :: K) k = x :: outK K k := by
        unfold outK
        rw [List.filter_cons, if_pos (by simp [hx])]
      rw [e1]
      unfold cK at ih ⊢
      rw [List.countP_cons, List.countP_cons, ih]
      omega
theorem outK_cO {K : List (Ky × Int)} {k : Ky} (hn : (K.map Prod.fst).Nodup) (hh : has K k) (r : List Int) : cK (outK K k) r = cO (cK K) (dl k) 26 r := by
  have := outK_count hn hh r
  unfold cO
  by_cases h : bg (dl k) 26 r
  · rw [if_pos h]; rw [if_pos ((bg_all r).1 h)] at this; omega
  · rw [if_neg h]; rw [if_neg (fun y => h ((bg_all r).2 y))] at this; omega
theorem outK_len {K : List (Ky × Int)} {k : Ky} (hn : (K.map Prod.fst).Nodup) (hh : has K k) : (outK K k).length + 1 = K.length := by
  have := outK_count hn hh []
  rw [cK_nil, cK_nil] at this
  simpa using this.symm
/-- What is known after i digits of taking a key out. -/
structure OutI (K : List (Ky × Int)) (k : Ky) (most : Int) (i a : Nat) (T : Tr) (f : List Int → Nat) : Prop where
  wf : WFD T.nodes (Pr (cK K)) (cO (cK K) (dl k) i) (vK2 K) f
  fr : FreeOK T.nodes T.free (fun r => Pr (cK K) r ∧ ¬ (bg (dl k) i r ∧ r ≠ [] ∧ cK K r = 1)) f
  at' : a = f ((dl k).take i)
  mo : T.most = most
theorem OutI.start {T : Tr} {K : List (Ky × Int)} {most : Int} {k : Ky} (h : TW T K most) (hh : has K k) {nd : Nd} (hnd : T.nodes[0]? = some nd) :
    ∃ f, OutI K k most 0 0 { T with nodes := T.nodes.set 0 (nd.1 - 1, nd.2.1, nd.2.2) } f := by
  obtain ⟨f, hW, hF⟩ := h.wf
  have hr := hW.root
  have hnd2 : T.nodes[f []]? = some nd := by rw [hr]; exact hnd
  have h1 : 1 ≤ cK K [] := by
    rw [cK_nil]
    obtain ⟨e, he, _⟩ := hh
    exact List.length_pos_of_mem he
  have hd := hW.dec (.inl rfl) (.inl rfl) h1 nd hnd2
  have hc : cO (cK K) (dl k) 0 = fun r => if r = [] then cK K r - 1 else cK K r := funext (cO_zero _ _)
  refine ⟨f, ?_, ?_, by rw [List.take_zero, hr], h.mo⟩
  · rw [hc]; rw [hr] at hd; exact hd
  · refine (hF.sets _ (by simp)).ext fun r => ?_
    constructor
    · exact fun x => x.1
    · exact fun x => ⟨x, fun y => y.2.1 ((bg_zero r).1 y.1)⟩
theorem OutI.pos {T : Tr} {K : List (Ky × Int)} {most : Int} {k : Ky} {i a : Nat} {f : List Int → Nat} (h : OutI K k most i a T f) (hh : dep (cK K) (dl k) 26 = 26) {j : Nat} (hj : j < 26) : 0 < cK K ((dl k).take (j + 1)) := dep_top (dep_pre hh (by omega))
/-- What follows a node on the way. -/
theorem OutI.next {T : Tr} {K : List (Ky × Int)} {most : Int} {k : Ky} {i a : Nat} {f : List Int → Nat} (h : OutI K k most i a T f) (hh : dep (cK K) (dl k) 26 = 26) (hi : i < 26) : ∃ (hlt : a < T.nodes.length) (hnl : f ((dl k).take (i + 1)) < T.nodes.length),
    (T.nodes[a]).2.1 (dig k i).toNat = (f ((dl k).take (i + 1)) : Int) ∧ (T.nodes[f ((dl k).take (i + 1))]).1 = cK K ((dl k).take (i + 1)) ∧ 0 < cK K ((dl k).take (i + 1)) ∧ a ≠ f ((dl k).take (i + 1)) := by
  have hds : i < (dl k).length := by rw [dl_len]; exact hi
  have hc := h.pos hh hi
  have hD : Pr (cK K) ((dl k).take i) := by
    cases i with
    | zero => exact .inl rfl
    | succ i => exact .inr (h.pos hh (by omega))
  have hDq : Pr (cK K) ((dl k).take (i + 1)) := .inr hc
  have hlt := h.wf.lt _ hD
  rw [← h.at'] at hlt
  have hnl := h.wf.lt _ hDq
  have hb := dig_bd k i
  have hcq : cO (cK K) (dl k) i ((dl k).take (i + 1)) = cK K ((dl k).take (i + 1)) := by unfold cO; rw [if_neg (bg_not hds)]; rfl
  refine ⟨hlt, hnl, ?_, ?_, hc, fun e => ?_⟩
  · have := h.wf.nxt _ (T.nodes[a]) (dig k i) hD (by rw [← h.at']; exact List.getElem?_eq_getElem hlt) (by rw [List.length_take, dl_len]; omega) hb.1 hb.2
    rw [this, ← dl_take hi, hcq, if_pos hc]
  · have := h.wf.cnt _ _ hDq (List.getElem?_eq_getElem hnl)
    rw [hcq] at this; exact this
  · rw [h.at'] at e
    have h2 := congrArg List.length (h.wf.inj _ _ hD hDq e)
    rw [List.length_take, List.length_take, dl_len] at h2
    omega
theorem OutI.more {T : Tr} {K : List (Ky × Int)} {most : Int} {k : Ky} {i a : Nat} {f : List Int → Nat} (h : OutI K k most i a T f) (hh : dep (cK K) (dl k) 26 = 26) (hi : i < 26) {nd : Nd} (hnd : T.nodes[f ((dl k).take (i + 1))]? = some nd) (hc : ¬ nd.1 - 1 = 0) :
    OutI K k most (i + 1) (f ((dl k).take (i + 1))) { T with nodes := T.nodes.set (f ((dl k).take (i + 1))) (nd.1 - 1, nd.2.1, nd.2.2) } f := by
  have hds : i < (dl k).length := by rw [dl_len]; exact hi
  have hp := h.pos hh hi
  have hcq : cO (cK K) (dl k) i ((dl k).take (i + 1)) = cK K ((dl k).take (i + 1)) := by unfold cO; rw [if_neg (bg_not hds)]; rfl
  have hv := h.wf.cnt _ _ (.inr hp) hnd
  rw [hcq] at hv
  have h1 := h.wf.dec (q := (dl k).take (i + 1)) (.inr hp) (.inr (by rw [hcq]; omega)) (by rw [hcq]; omega) nd hnd
  have hcs : cO (cK K) (dl k) (i + 1) = fun r => if r = (dl k).take (i + 1) then cO (cK K) (dl k) i r - 1 else cO (cK K) (dl k) i r := funext (cO_succ _ hds)
  refine ⟨by rw [hcs]; exact h1, (h.fr.sets _ (by simp)).ext fun r => ?_, rfl, h.mo⟩
  constructor
  · rintro ⟨x, y⟩; exact ⟨x, fun z => y ⟨(bg_succ hds r).2 (.inl z.1), z.2⟩⟩
  · rintro ⟨x, y⟩
    refine ⟨x, fun z => ?_⟩
    rcases (bg_succ hds r).1 z.1 with h9 | h9
    · exact y ⟨h9, z.2⟩
    · have := z.2.2; rw [h9] at this; omega
theorem OutI.last {T : Tr} {K : List (Ky × Int)} {most : Int} {k : Ky} {i a : Nat} {f : List Int → Nat} (h : OutI K k most i a T f) (hh : dep (cK K) (dl k) 26 = 26) (hi : i < 26) {nd : Nd} (hnd : T.nodes[f ((dl k).take (i + 1))]? = some nd) (hc : nd.1 - 1 = 0) {np : Nd}
    (hnp : (T.nodes.set (f ((dl k).take (i + 1))) (nd.1 - 1, nd.2.1, nd.2.2))[a]? = some np) :
    OutI K k most (i + 1) (f ((dl k).take (i + 1))) { T with nodes := (T.nodes.set (f ((dl k).take (i + 1))) (nd.1 - 1, nd.2.1, nd.2.2)).set a (np.1, updN np.2.1 (dig k i).toNat 0, np.2.2), free := T.free ++ [f ((dl k).take (i + 1))] } f := by
  have hds : i < (dl k).length := by rw [dl_len]; exact hi
  have hp := h.pos hh hi
  have hcq : cO (cK K) (dl k) i ((dl k).take (i + 1)) = cK K ((dl k).take (i + 1)) := by unfold cO; rw [if_neg (bg_not hds)]; rfl
  have hD : Pr (cK K) ((dl k).take i) := by
    cases i with
    | zero => exact .inl rfl
    | succ i => exact .inr (h.pos hh (by omega))
  have hv := h.wf.cnt _ _ (.inr hp) hnd
  rw [hcq] at hv
  have h1 := h.wf.cut (q := (dl k).take (i + 1)) hD (.inr hp) (dl_take hi) (by rw [List.length_take, dl_len]; omega) (dig_bd k i) (by rw [hcq]; omega) nd hnd np (by rw [← h.at']; exact hnp)
  rw [← h.at'] at h1
  have hcs : cO (cK K) (dl k) (i + 1) = fun r => if r = (dl k).take (i + 1) then cO (cK K) (dl k) i r - 1 else cO (cK K) (dl k) i r := funext (cO_succ _ hds)
  have hqn : (dl k).take (i + 1) ≠ [] := fun e => by have := congrArg List.length e; rw [List.length_take, dl_len] at this; simp at this
  have hDq : Pr (cK K) ((dl k).take (i + 1)) ∧ ¬ (bg (dl k) i ((dl k).take (i + 1)) ∧ (dl k).take (i + 1) ≠ [] ∧ cK K ((dl k).take (i + 1)) = 1) := ⟨.inr hp, fun x => bg_not hds x.1⟩
  refine ⟨by rw [hcs]; exact h1, ((h.fr.rel hDq (h.wf.lt _ (.inr hp)) fun r hr e => h.wf.inj _ _ hr.1 (.inr hp) e).sets _ (by simp)).ext fun r => ?_, rfl, h.mo⟩
  constructor
  · rintro ⟨x, y⟩
    refine ⟨⟨x, fun z => y ⟨(bg_succ hds r).2 (.inl z.1), z.2⟩⟩, fun e => ?_⟩
    subst e
    exact y ⟨(bg_succ hds _).2 (.inr rfl), hqn, by omega⟩
  · rintro ⟨⟨x, y⟩, z⟩
    refine ⟨x, fun u => ?_⟩
    rcases (bg_succ hds r).1 u.1 with h9 | h9
    · exact y ⟨h9, u.2⟩
    · exact z h9
theorem OutI.done {T : Tr} {K : List (Ky × Int)} {most : Int} {k : Ky} {a : Nat} {f : List Int → Nat} (h : OutI K k most 26 a T f) (hK : ∀ e ∈ K, WfK e.1) (hn : (K.map Prod.fst).Nodup) (hk : WfK k) (hh : has K k) (hb : (K.length : Int) ≤ most ∧ most ≤ 8192) (hnb : T.nodes.length ≤ 300001) : TW T (outK K k) most := by
  have hc : cO (cK K) (dl k) 26 = cK (outK K k) := (funext (outK_cO hn hh)).symm
  have hl := outK_len hn hh
  have hk2 : ∀ e ∈ outK K k, WfK e.1 := fun e he => hK e (List.mem_filter.1 he).1
  have hW := h.wf
  rw [hc] at hW
  have hcc : ∀ r, cK (outK K k) r = cK K r - if bg (dl k) 26 r then 1 else 0 := fun r => by rw [← hc]; rfl
  refine ⟨⟨f, ?_, ?_⟩, h.mo, by omega, hk2, ?_, hnb⟩
  · refine (hW.less (.inl rfl) (fun p hp => ?_) (fun p hp => .inr hp)).vals fun p hp hpl => ?_
    · rcases hp with e | e
      · exact .inl e
      · right; have := hcc p; omega
    · have hne : p ≠ dl k := by
        rintro rfl
        rcases hp with e | e
        · rw [e] at hpl; simp at hpl
        · exact outK_has ((cK_full hk hk2).1 e)
      unfold vK2 outK
      rw [List.find?_filter]
      have : (fun a : Ky × Int => decide ((!(a.1 == k)) = true ∧ (dl a.1 == p) = true)) = fun e => dl e.1 == p := by
        funext e
        by_cases h9 : e.1 = k
        · have : (dl e.1 == p) = false := by rw [h9]; exact beq_eq_false_iff_ne.2 (fun e2 => hne e2.symm)
          rw [this]; simp
        · simp only [beq_eq_false_iff_ne.2 h9, Bool.not_false, true_and, Bool.decide_eq_true]
      rw [this]
  · refine h.fr.ext fun r => ?_
    unfold Pr
    by_cases e : r = []
    · simp [e]
    · have h9 := hcc r
      constructor
      · rintro (x | x)
        · exact absurd x e
        · refine ⟨.inr (by omega), fun y => ?_⟩
          rw [if_pos y.1] at h9; omega
      · rintro ⟨x | x, y⟩
        · exact absurd x e
        · right
          by_cases hb2 : bg (dl k) 26 r
          · rw [if_pos hb2] at h9
            have : cK K r ≠ 1 := fun z => y ⟨hb2, e, z⟩
            omega
          · rw [if_neg hb2] at h9; omega
  · exact (List.Sublist.map Prod.fst List.filter_sublist).nodup hn
end Go.Proofs.Ytmcfmhiadlkglaa.Sx
