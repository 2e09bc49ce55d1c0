/-
  Tries: putting a key in and taking one out, from beginning to end. Nothing of a program stands here.
-/
import Derived.Test.YtmcfmhiadlkglaaTrie3
namespace Go.Proofs.Ytmcfmhiadlkglaa.Sx
open Go
set_option linter.unusedVariables false
/-- A beginning of ds of at most i digits. -/
def bg (ds : List Int) (i : Nat) (r : List Int) : Prop := r.length ≤ i ∧ r = ds.take r.length
instance (ds : List Int) (i : Nat) (r : List Int) : Decidable (bg ds i r) := inferInstanceAs (Decidable (_ ∧ _))
theorem bg_succ {ds : List Int} {i : Nat} (hi : i < ds.length) (r : List Int) : bg ds (i + 1) r ↔ bg ds i r ∨ r = ds.take (i + 1) := by
  unfold bg
  constructor
  · rintro ⟨h1, h2⟩
    rcases Nat.lt_or_ge r.length (i + 1) with h | h
    · exact .inl ⟨by omega, h2⟩
    · right
      have : r.length = i + 1 := by omega
      rw [this] at h2; exact h2
  · rintro (⟨h1, h2⟩ | h)
    · exact ⟨by omega, h2⟩
    · have hl : r.length = i + 1 := by rw [h, List.length_take]; omega
      exact ⟨by omega, by rw [hl]; exact h⟩
theorem bg_not {ds : List Int} {i : Nat} (hi : i < ds.length) : ¬ bg ds i (ds.take (i + 1)) := by
  rintro ⟨h, _⟩
  rw [List.length_take] at h; omega
theorem bg_zero {ds : List Int} (r : List Int) : bg ds 0 r ↔ r = [] := by
  unfold bg
  constructor
  · rintro ⟨h, _⟩; exact List.eq_nil_of_length_eq_zero (by omega)
  · rintro rfl; simp
theorem bg_all {k : Ky} (r : List Int) : bg (dl k) 26 r ↔ r.isPrefixOf (dl k) = true := by
  rw [isPrefix_iff]
  unfold bg
  constructor
  · exact fun h => h.2
  · intro h
    refine ⟨?_, h⟩
    rw [h, List.length_take, dl_len]; omega
def cP (c : List Int → Nat) (ds : List Int) (i : Nat) (r : List Int) : Nat := c r + if bg ds i r then 1 else 0
def cO (c : List Int → Nat) (ds : List Int) (i : Nat) (r : List Int) : Nat := c r - if bg ds i r then 1 else 0
theorem cP_zero (c : List Int → Nat) (ds : List Int) (r : List Int) : cP c ds 0 r = if r = [] then c r + 1 else c r := by
  unfold cP
  by_cases h : r = []
  · rw [if_pos ((bg_zero r).2 h), if_pos h]
  · rw [if_neg (fun x => h ((bg_zero r).1 x)), if_neg h]; rfl
theorem cO_zero (c : List Int → Nat) (ds : List Int) (r : List Int) : cO c ds 0 r = if r = [] then c r - 1 else c r := by
  unfold cO
  by_cases h : r = []
  · rw [if_pos ((bg_zero r).2 h), if_pos h]
  · rw [if_neg (fun x => h ((bg_zero r).1 x)), if_neg h]; rfl
theorem cP_succ (c : List Int → Nat) {ds : List Int} {i : Nat} (hi : i < ds.length) (r : List Int) : cP c ds (i + 1) r = if r = ds.take (i + 1) then cP c ds i r + 1 else cP c ds i r := by
  unfold cP
  by_cases h : r = ds.take (i + 1)
  · subst h
    rw [if_pos ((bg_succ hi _).2 (.inr rfl)), if_pos rfl, if_neg (bg_not hi)]
  · rw [if_neg h]
    by_cases hb : bg ds i r
    · rw [if_pos hb, if_pos ((bg_succ hi _).2 (.inl hb))]
    · rw [if_neg hb, if_neg (fun x => ((bg_succ hi _).1 x).elim hb h)]
theorem cO_succ (c : List Int → Nat) {ds : List Int} {i : Nat} (hi : i < ds.length) (r : List Int) : cO c ds (i + 1) r = if r = ds.take (i + 1) then cO c ds i r - 1 else cO c ds i r := by
  unfold cO
  by_cases h : r = ds.take (i + 1)
  · subst h
    rw [if_pos ((bg_succ hi _).2 (.inr rfl)), if_pos rfl, if_neg (bg_not hi)]; rfl
  · rw [if_neg h]
    by_cases hb : bg ds i r
    · rw [if_pos hb, if_pos ((bg_succ hi _).2 (.inl hb))]
    · rw [if_neg hb, if_neg (fun x => ((bg_succ hi _).1 x).elim hb h)]
theorem cP_all (K : List (Ky × Int)) (k : Ky) (x : Int) (r : List Int) : cK (K ++ [(k, x)]) r = cP (cK K) (dl k) 26 r := by
  rw [cK_snoc, cP]
  by_cases h : bg (dl k) 26 r
  · rw [if_pos h, if_pos ((bg_all r).1 h)]
  · rw [if_neg h, if_neg (fun y => h ((bg_all r).2 y))]
/-! ### the trie's state -/
structure TW (T : Tr) (K : List (Ky × Int)) (most : Int) : Prop where
  wf : ∃ f, WFD T.nodes (Pr (cK K)) (cK K) (vK2 K) f ∧ FreeOK T.nodes T.free (Pr (cK K)) f
  mo : T.most = most
  bd : (K.length : Int) ≤ most ∧ most ≤ 8192
  keys : ∀ e ∈ K, WfK e.1
  nodup : (K.map Prod.fst).Nodup
  nb : T.nodes.length ≤ 300001
def has (K : List (Ky × Int)) (k : Ky) : Prop := ∃ e ∈ K, e.1 = k
def findV (K : List (Ky × Int)) (k : Ky) : Option Int := (K.find? fun e => e.1 == k).map (·.2)
theorem has_iff {K : List (Ky × Int)} {k : Ky} (hk : WfK k) (hK : ∀ e ∈ K, WfK e.1) : dep (cK K) (dl k) 26 = 26 ↔ has K k := by
  rw [dep_full (by omega), show (dl k).take 26 = dl k from List.take_of_length_le (by rw [dl_len]; omega), cK_full hk hK]; rfl
theorem vK2_eq {K : List (Ky × Int)} {k : Ky} (hk : WfK k) (hK : ∀ e ∈ K, WfK e.1) : vK2 K (dl k) = (findV K k).getD 0 := by
  unfold vK2 findV
  have : (K.find? fun e => dl e.1 == dl k) = K.find? fun e => e.1 == k := by
    induction K with
    | nil => rfl
    | cons e K ih =>
      have ih := ih fun x hx => hK x (List.mem_cons_of_mem _ hx)
      by_cases h : e.1 = k
      · simp [h]
      · have h2 : dl e.1 ≠ dl k := fun h3 => h (dl_inj (hK e List.mem_cons_self) hk h3)
        rw [List.find?_cons, List.find?_cons]
        simp only [beq_eq_false_iff_ne.2 h, beq_eq_false_iff_ne.2 h2]
        exact ih
  rw [this]
theorem findV_some {K : List (Ky × Int)} {k : Ky} : (findV K k).isSome = true ↔ has K k := by
  unfold findV has
  rw [Option.isSome_map, List.find?_isSome]
  simp
/-- What is known after i digits of putting a key in. -/
structure PutI (K : List (Ky × Int)) (k : Ky) (most : Int) (i a : Nat) (T : Tr) (f : List Int → Nat) : Prop where
  wf : WFD T.nodes (Pr (cP (cK K) (dl k) i)) (cP (cK K) (dl k) i) (fun p => if p = dl k then 0 else vK2 K p) f
  fr : FreeOK T.nodes T.free (Pr (cP (cK K) (dl k) i)) f
  at' : a = f ((dl k).take i)
  mo : T.most = most
theorem WFD.vals {ns : List Nd} {D : List Int → Prop} {c : List Int → Nat} {v v' : List Int → Int} {f : List Int → Nat} (h : WFD ns D c v f) (hv : ∀ p, D p → p.length = 26 → v' p = v p) : WFD ns D c v' f :=
  ⟨h.root, h.droot, h.lt, h.inj, h.cnt, h.nxt, fun p x hp hl hx => by rw [hv p hp hl]; exact h.val p x hp hl hx, h.up⟩
theorem PutI.start {T : Tr} {K : List (Ky × Int)} {most : Int} {k : Ky} (h : TW T K most) (hk : WfK k) (hn : ¬ has K k) {nd : Nd} (hnd : T.nodes[0]? = some nd) :
    ∃ f, PutI K k most 0 0 { T with nodes := T.nodes.set 0 (nd.1 + 1, nd.2.1, nd.2.2) } f := by
  obtain ⟨f, hW, hF⟩ := h.wf
  have hr := hW.root
  have hW2 := hW.vals (v' := fun p => if p = dl k then 0 else vK2 K p) fun p hp hl => by
    have : p ≠ dl k := by
      rintro rfl
      rcases hp with e | e
      · rw [e] at hl; simp at hl
      · exact hn ((cK_full hk h.keys).1 e)
    rw [if_neg this]
  have hnd2 : T.nodes[f []]? = some nd := by rw [hr]; exact hnd
  obtain ⟨h1, h2⟩ := hW2.inc hF (.inl rfl) nd hnd2
  have hc : cP (cK K) (dl k) 0 = fun r => if r = [] then cK K r + 1 else cK K r := funext (cP_zero _ _)
  refine ⟨f, ?_, ?_, ?_, h.mo⟩
  · rw [hc]; rw [hr] at h1; exact h1
  · rw [hc]; rw [hr] at h2; exact h2
  · rw [List.take_zero, hr]
/-- What follows a node on the way. -/
theorem PutI.next {T : Tr} {K : List (Ky × Int)} {most : Int} {k : Ky} {i a : Nat} {f : List Int → Nat} (h : PutI K k most i a T f) (hi : i < 26) : ∃ hlt : a < T.nodes.length,
    (T.nodes[a]).2.1 (dig k i).toNat = (if 0 < cK K ((dl k).take (i + 1)) then (f ((dl k).take (i + 1)) : Int) else 0) ∧
    (0 < cK K ((dl k).take (i + 1)) → 0 < f ((dl k).take (i + 1)) ∧ f ((dl k).take (i + 1)) < T.nodes.length) := by
  have hds : i < (dl k).length := by rw [dl_len]; exact hi
  have hD : Pr (cP (cK K) (dl k) i) ((dl k).take i) := by
    cases i with
    | zero => exact .inl rfl
    | succ i => right; unfold cP; rw [if_pos (show bg (dl k) (i + 1) _ from ⟨by rw [List.length_take]; omega, by rw [List.length_take, dl_len, Nat.min_eq_left (by omega)]⟩)]; omega
  have hlt := h.wf.lt _ hD
  rw [← h.at'] at hlt
  have hb := dig_bd k i
  have hcq : cP (cK K) (dl k) i ((dl k).take (i + 1)) = cK K ((dl k).take (i + 1)) := by unfold cP; rw [if_neg (bg_not hds)]; rfl
  refine ⟨hlt, ?_, fun hc => ?_⟩
  · have := h.wf.nxt _ (T.nodes[a]) (dig k i) hD (by rw [← h.at']; exact List.getElem?_eq_getElem hlt) (by rw [List.length_take, dl_len]; omega) hb.1 hb.2
    rw [this, ← dl_take hi, hcq]
  · have hDq : Pr (cP (cK K) (dl k) i) ((dl k).take (i + 1)) := .inr (by rw [hcq]; exact hc)
    refine ⟨?_, h.wf.lt _ hDq⟩
    rcases Nat.eq_zero_or_pos (f ((dl k).take (i + 1))) with e | e
    · have h2 := h.wf.inj _ [] hDq h.wf.droot (by rw [e, h.wf.root])
      have h3 := congrArg List.length h2
      rw [List.length_take, dl_len] at h3
      simp at h3
    · exact e
theorem PutI.old {T : Tr} {K : List (Ky × Int)} {most : Int} {k : Ky} {i a : Nat} {f : List Int → Nat} (h : PutI K k most i a T f) (hi : i < 26) (hc : 0 < cK K ((dl k).take (i + 1))) {nd : Nd} (hnd : T.nodes[f ((dl k).take (i + 1))]? = some nd) :
    PutI K k most (i + 1) (f ((dl k).take (i + 1))) { T with nodes := T.nodes.set (f ((dl k).take (i + 1))) (nd.1 + 1, nd.2.1, nd.2.2) } f := by
  have hds : i < (dl k).length := by rw [dl_len]; exact hi
  have hcq : cP (cK K) (dl k) i ((dl k).take (i + 1)) = cK K ((dl k).take (i + 1)) := by unfold cP; rw [if_neg (bg_not hds)]; rfl
  obtain ⟨h1, h2⟩ := h.wf.inc h.fr (q := (dl k).take (i + 1)) (.inr (by rw [hcq]; exact hc)) nd hnd
  have hcs : cP (cK K) (dl k) (i + 1) = fun r => if r = (dl k).take (i + 1) then cP (cK K) (dl k) i r + 1 else cP (cK K) (dl k) i r := funext (cP_succ _ hds)
  exact ⟨by rw [hcs]; exact h1, by rw [hcs]; exact h2, rfl, h.mo⟩
/-- A new node. -/
def freshI (T : Tr) : Nat := T.free.getLast?.getD T.nodes.length
def freshT (T : Tr) : Tr := if T.free = [] then { T with nodes := T.nodes ++ [z0] } else { T with nodes := T.nodes.set (freshI T) z0, free := T.free.dropLast }
theorem PutI.new {T : Tr} {K : List (Ky × Int)} {most : Int} {k : Ky} {i a : Nat} {f : List Int → Nat} (h : PutI K k most i a T f) (hi : i < 26) (hc : ¬ 0 < cK K ((dl k).take (i + 1))) :
    ∃ (hlt : a < (freshT T).nodes.length) (hne : a ≠ freshI T) (hlf : freshI T < (freshT T).nodes.length) (f' : List Int → Nat), (freshT T).nodes[freshI T] = z0 ∧
    PutI K k most (i + 1) (freshI T) { freshT T with nodes := ((freshT T).nodes.set a (((freshT T).nodes[a]).1, updN ((freshT T).nodes[a]).2.1 (dig k i).toNat (freshI T), ((freshT T).nodes[a]).2.2)).set (freshI T) (1, z0.2.1, z0.2.2) } f' := by
  have hds : i < (dl k).length := by rw [dl_len]; exact hi
  have hcq : cP (cK K) (dl k) i ((dl k).take (i + 1)) = 0 := by unfold cP; rw [if_neg (bg_not hds)]; omega
  have hD : Pr (cP (cK K) (dl k) i) ((dl k).take i) := by
    cases i with
    | zero => exact .inl rfl
    | succ i => right; unfold cP; rw [if_pos (show bg (dl k) (i + 1) _ from ⟨by rw [List.length_take]; omega, by rw [List.length_take, dl_len, Nat.min_eq_left (by omega)]⟩)]; omega
  have hlt0 := h.wf.lt _ hD
  rw [← h.at'] at hlt0
  have hcs : cP (cK K) (dl k) (i + 1) = fun r => if r = (dl k).take (i + 1) then cP (cK K) (dl k) i r + 1 else cP (cK K) (dl k) i r := funext (cP_succ _ hds)
  have hch : ∀ e, cP (cK K) (dl k) i ((dl k).take (i + 1) ++ [e]) = 0 := by
    intro e
    have := cK_mono K ((dl k).take (i + 1)) e
    unfold cP
    rw [if_neg (fun x => by have := x.1; rw [List.length_append, List.length_take, dl_len] at this; simp at this; omega)]
    omega
  have hv : ((dl k).take (i + 1)).length = 26 → (fun p => if p = dl k then 0 else vK2 K p) ((dl k).take (i + 1)) = 0 := by
    intro hl
    rw [List.length_take, dl_len] at hl
    have : (dl k).take (i + 1) = dl k := List.take_of_length_le (by rw [dl_len]; omega)
    dsimp only
    rw [this, if_pos rfl]
  have fin : ∀ (T1 : Tr) (i0 : Nat), T1 = freshT T → i0 = freshI T → (T.nodes.length ≤ T1.nodes.length ∧ i0 < T1.nodes.length ∧ (∀ r, Pr (cP (cK K) (dl k) i) r → f r ≠ i0) ∧ (∀ j, j ≠ i0 → j < T.nodes.length → T1.nodes[j]? = T.nodes[j]?) ∧ T1.nodes[i0]? = some z0 ∧ T1.free.Nodup ∧ (∀ j, j ∈ T1.free ↔ j ∈ T.free ∧ j ≠ i0) ∧ (∀ j, j < T1.nodes.length → j = i0 ∨ j < T.nodes.length) ∧ T1.most = T.most) →
      ∃ (hlt : a < T1.nodes.length) (hne : a ≠ i0) (hlf : i0 < T1.nodes.length) (f' : List Int → Nat), T1.nodes[i0] = z0 ∧ PutI K k most (i + 1) i0 { T1 with nodes := (T1.nodes.set a ((T1.nodes[a]).1, updN (T1.nodes[a]).2.1 (dig k i).toNat i0, (T1.nodes[a]).2.2)).set i0 (1, z0.2.1, z0.2.2) } f' := by
    rintro T1 i0 - - ⟨h1, h2, h3, h4, h5, h6, h7, h8, h9⟩
    have hlt : a < T1.nodes.length := by omega
    have hne : a ≠ i0 := by rw [h.at']; exact h3 _ hD
    obtain ⟨g1, g2⟩ := h.wf.grow h.fr hD (by rw [List.length_take, dl_len]; omega) (dig_bd k i) (dl_take hi) hcq hch hv h1 h2 h3 h4 h5 h6 h7 h8 (T1.nodes[a]) (by rw [← h.at']; exact List.getElem?_eq_getElem hlt)
    rw [← h.at'] at g1 g2
    refine ⟨hlt, hne, h2, (fun r => if r = (dl k).take (i + 1) then i0 else f r), by rw [List.getElem?_eq_getElem h2] at h5; exact Option.some.inj h5, ?_, ?_, ?_, by rw [h9]; exact h.mo⟩
    · rw [hcs]; exact g1
    · rw [hcs]; exact g2
    · rw [if_pos rfl]
  refine fin _ _ rfl rfl ?_
  by_cases hf : T.free = []
  · have e1 : freshI T = T.nodes.length := by simp [freshI, hf]
    have e2 : freshT T = { T with nodes := T.nodes ++ [z0] } := by rw [freshT, if_pos hf]
    rw [e1, e2]
    refine ⟨by simp, by simp, fun r hr => ?_, fun j hj hjl => ?_, ?_, ?_, fun j => ?_, fun j hj => ?_, rfl⟩
    · have := h.wf.lt r hr; omega
    · exact List.getElem?_append_left hjl
    · simp
    · exact h.fr.nodup
    · rw [hf]; simp
    · simp at hj; omega
  · have hne : T.free ≠ [] := hf
    have e0 : T.free.getLast? = some (T.free.getLast hne) := List.getLast?_eq_some_getLast hne
    have e1 : freshI T = T.free.getLast hne := by simp [freshI, e0]
    have e2 : freshT T = { T with nodes := T.nodes.set (freshI T) z0, free := T.free.dropLast } := by rw [freshT, if_neg hf]
    have hin : freshI T ∈ T.free := by rw [e1]; exact List.getLast_mem hne
    have hil := h.fr.lt _ hin
    have hsp : T.free = T.free.dropLast ++ [freshI T] := by rw [e1]; exact (List.dropLast_concat_getLast hne).symm
    have hnd := h.fr.nodup
    rw [hsp, List.nodup_append] at hnd
    rw [e2]
    refine ⟨by simp, by simpa using hil, fun r hr e => ?_, fun j hj hjl => ?_, ?_, hnd.1, fun j => ?_, fun j hj => ?_, rfl⟩
    · exact h.fr.no r hr (by rw [e]; exact hin)
    · exact List.getElem?_set_ne (fun e => hj e.symm)
    · exact List.getElem?_set_self hil
    · constructor
      · intro hj
        exact ⟨by rw [hsp]; exact List.mem_append_left _ hj, fun e => hnd.2.2 _ hj _ List.mem_cons_self e⟩
      · rintro ⟨hj, hj2⟩
        rw [hsp] at hj
        rcases List.mem_append.1 hj with h9 | h9
        · exact h9
        · exact absurd (by simpa using h9) hj2
    · right; simpa using hj
end Go.Proofs.Ytmcfmhiadlkglaa.Sx
