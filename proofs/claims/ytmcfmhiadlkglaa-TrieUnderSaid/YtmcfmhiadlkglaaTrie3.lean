/-
  Tries: one step of taking a key out; the keys of a trie, what their beginnings count. Nothing of a program stands here.
-/
import Derived.Test.YtmcfmhiadlkglaaTrie2
namespace Go.Proofs.Ytmcfmhiadlkglaa.Sx
open Go
set_option linter.unusedVariables false
section
variable {ns : List Nd} {F : List Nat} {D : List Int → Prop} {c : List Int → Nat} {v : List Int → Int} {f : List Int → Nat} {q : List Int}
/-- One less at a beginning where more are left, or at the root. -/
theorem WFD.dec (hW : WFD ns D c v f) (hq : D q) (hc : q = [] ∨ 1 < c q) (h0 : 1 ≤ c q) (nd : Nd) (hnd : ns[f q]? = some nd) :
    WFD (ns.set (f q) (nd.1 - 1, nd.2.1, nd.2.2)) D (fun r => if r = q then c r - 1 else c r) v f := by
  have hlt := (List.getElem?_eq_some_iff.1 hnd).1
  have hget : ∀ r, D r → ∀ x, (ns.set (f q) (nd.1 - 1, nd.2.1, nd.2.2))[f r]? = some x → (r = q ∧ x = (nd.1 - 1, nd.2.1, nd.2.2)) ∨ (r ≠ q ∧ ns[f r]? = some x) := by
    intro r hr x hx
    by_cases e : r = q
    · subst e
      rw [List.getElem?_set_self hlt] at hx
      exact .inl ⟨rfl, (Option.some.inj hx).symm⟩
    · rw [List.getElem?_set_ne (fun e2 => e (hW.inj _ _ hr hq e2.symm))] at hx
      exact .inr ⟨e, hx⟩
  refine ⟨hW.root, hW.droot, fun r hr => by rw [List.length_set]; exact hW.lt r hr, hW.inj, ?_, ?_, ?_, ?_⟩
  · intro r x hr hx
    rcases hget r hr x hx with ⟨e, rfl⟩ | ⟨e, hx⟩
    · subst e
      have := hW.cnt _ _ hq hnd
      dsimp only
      rw [if_pos rfl, this]; omega
    · rw [if_neg e]; exact hW.cnt r x hr hx
  · intro r x d hr hx hl h1 h2
    have key : (if 0 < (if r ++ [d] = q then c (r ++ [d]) - 1 else c (r ++ [d])) then (f (r ++ [d]) : Int) else 0) = if 0 < c (r ++ [d]) then (f (r ++ [d]) : Int) else 0 := by
      by_cases e : r ++ [d] = q
      · rcases hc with hq0 | hq0
        · rw [hq0] at e; simp at e
        · rw [if_pos e, if_pos (by rw [e]; omega), e, if_pos (show 0 < c q from h0)]
      · rw [if_neg e]
    rw [key]
    rcases hget r hr x hx with ⟨e, rfl⟩ | ⟨e, hx⟩
    · subst e; exact hW.nxt _ nd d hq hnd hl h1 h2
    · exact hW.nxt r x d hr hx hl h1 h2
  · intro r x hr hl hx
    rcases hget r hr x hx with ⟨e, rfl⟩ | ⟨e, hx⟩
    · subst e; exact hW.val _ nd hq hl hnd
    · exact hW.val r x hr hl hx
  · intro r hr
    refine hW.up r ?_
    by_cases e : r = q
    · rw [if_pos e] at hr; omega
    · rw [if_neg e] at hr; exact hr
/-- The last one at a beginning: its node is taken out of the one above. -/
theorem WFD.cut {p : List Int} {d : Int} (hW : WFD ns D c v f) (hp : D p) (hq : D q) (hpq : q = p ++ [d]) (hpl : p.length < 26) (hd : 0 ≤ d ∧ d < 16) (h1 : c q = 1) (nd : Nd) (hnd : ns[f q]? = some nd) (np : Nd) (hnp : (ns.set (f q) (nd.1 - 1, nd.2.1, nd.2.2))[f p]? = some np) :
    WFD ((ns.set (f q) (nd.1 - 1, nd.2.1, nd.2.2)).set (f p) (np.1, updN np.2.1 d.toNat 0, np.2.2)) D (fun r => if r = q then c r - 1 else c r) v f := by
  have hne : f p ≠ f q := fun e => by
    have h9 := hW.inj _ _ hp hq e
    rw [hpq] at h9
    have := congrArg List.length h9; simp at this
  have hlt := (List.getElem?_eq_some_iff.1 hnd).1
  have hplt := hW.lt p hp
  have hnp0 : ns[f p]? = some np := by rw [← hnp, List.getElem?_set_ne (fun e => hne e.symm)]
  obtain ⟨N, hN⟩ : ∃ N, (ns.set (f q) (nd.1 - 1, nd.2.1, nd.2.2)).set (f p) (np.1, updN np.2.1 d.toNat 0, np.2.2) = N := ⟨_, rfl⟩
  have hNl : N.length = ns.length := by rw [← hN]; simp
  have hNp : N[f p]? = some (np.1, updN np.2.1 d.toNat 0, np.2.2) := by rw [← hN, List.getElem?_set_self (by simpa using hplt)]
  have hNq : N[f q]? = some (nd.1 - 1, nd.2.1, nd.2.2) := by rw [← hN, List.getElem?_set_ne hne, List.getElem?_set_self hlt]
  have hNr : ∀ r, D r → r ≠ p → r ≠ q → N[f r]? = ns[f r]? := by
    intro r hr e1 e2
    have h2 : f p ≠ f r := fun e => e1 (hW.inj _ _ hr hp e.symm)
    have h3 : f q ≠ f r := fun e => e2 (hW.inj _ _ hr hq e.symm)
    rw [← hN, List.getElem?_set_ne h2, List.getElem?_set_ne h3]
  have hpnq : p ≠ q := fun e => hne (by rw [e])
  have hch : ∀ r (e : Int), r ++ [e] = q → r = p ∧ e = d := fun r e h => snoc_inj (h.trans hpq)
  rw [hN]
  refine ⟨hW.root, hW.droot, fun r hr => by rw [hNl]; exact hW.lt r hr, hW.inj, ?_, ?_, ?_, ?_⟩
  · intro r x hr hx
    by_cases e1 : r = p
    · subst e1
      rw [hNp] at hx; cases hx
      rw [if_neg hpnq]; exact hW.cnt r np hr hnp0
    · by_cases e2 : r = q
      · subst e2
        rw [hNq] at hx; cases hx
        have := hW.cnt r nd hr hnd
        rw [if_pos rfl]; dsimp only; omega
      · rw [hNr r hr e1 e2] at hx
        rw [if_neg e2]; exact hW.cnt r x hr hx
  · intro r x e hr hx hl h2 h3
    have old : r ++ [e] ≠ q → (if 0 < (if r ++ [e] = q then c (r ++ [e]) - 1 else c (r ++ [e])) then (f (r ++ [e]) : Int) else 0) = if 0 < c (r ++ [e]) then (f (r ++ [e]) : Int) else 0 := fun h => by rw [if_neg h]
    by_cases e1 : r = p
    · subst e1
      rw [hNp] at hx; cases hx
      show updN np.2.1 d.toNat 0 e.toNat = _
      unfold updN
      by_cases ed : e = d
      · subst ed
        rw [if_pos rfl, ← hpq, if_pos rfl, h1]; simp
      · rw [if_neg (by omega), old (fun h9 => ed (hch r e h9).2)]
        exact hW.nxt r np e hr hnp0 hl h2 h3
    · rw [old (fun h9 => e1 (hch r e h9).1)]
      by_cases e2 : r = q
      · subst e2
        rw [hNq] at hx; cases hx
        exact hW.nxt r nd e hr hnd hl h2 h3
      · rw [hNr r hr e1 e2] at hx
        exact hW.nxt r x e hr hx hl h2 h3
  · intro r x hr hl hx
    by_cases e1 : r = p
    · subst e1; omega
    · by_cases e2 : r = q
      · subst e2
        rw [hNq] at hx; cases hx
        exact hW.val r nd hr hl hnd
      · rw [hNr r hr e1 e2] at hx
        exact hW.val r x hr hl hx
  · intro r hr
    refine hW.up r ?_
    by_cases e : r = q
    · rw [if_pos e] at hr; omega
    · rw [if_neg e] at hr; exact hr
theorem WFD.less {D' : List Int → Prop} (hW : WFD ns D c v f) (h0 : D' []) (hD : ∀ p, D' p → D p) (hu : ∀ p, 0 < c p → D' p) : WFD ns D' c v f :=
  ⟨hW.root, h0, fun p hp => hW.lt p (hD p hp), fun p r hp hr => hW.inj p r (hD p hp) (hD r hr), fun p x hp => hW.cnt p x (hD p hp), fun p x d hp => hW.nxt p x d (hD p hp), fun p x hp => hW.val p x (hD p hp), hu⟩
theorem FreeOK.sets (hF : FreeOK ns F D f) (ns' : List Nd) (h : ns'.length = ns.length) : FreeOK ns' F D f :=
  ⟨hF.nodup, fun i hi => by rw [h]; exact hF.lt i hi, hF.no, fun i hi => hF.all i (by rw [← h]; exact hi)⟩
theorem FreeOK.rel (hF : FreeOK ns F D f) (hq : D q) (hlt : f q < ns.length) (hinj : ∀ r, D r → f r = f q → r = q) : FreeOK ns (F ++ [f q]) (fun r => D r ∧ r ≠ q) f := by
  refine ⟨?_, fun i hi => ?_, fun r hr hin => ?_, fun i hi => ?_⟩
  · rw [List.nodup_append]
    exact ⟨hF.nodup, by simp, fun a ha b hb e => by
      simp only [List.mem_singleton] at hb
      subst hb; subst e
      exact hF.no q hq ha⟩
  · rcases List.mem_append.1 hi with h | h
    · exact hF.lt i h
    · simp only [List.mem_singleton] at h; omega
  · rcases List.mem_append.1 hin with h | h
    · exact hF.no r hr.1 h
    · simp only [List.mem_singleton] at h
      exact hr.2 (hinj r hr.1 h)
  · rcases hF.all i hi with h | ⟨r, hr, e⟩
    · exact .inl (List.mem_append_left _ h)
    · by_cases e2 : r = q
      · left; rw [← e, e2]; simp
      · exact .inr ⟨r, ⟨hr, e2⟩, e⟩
end
/-! ### keys -/
/-- How many keys begin so. -/
def cK (K : List (Ky × Int)) (p : List Int) : Nat := K.countP fun e => p.isPrefixOf (dl e.1)
/-- The value of the key with these digits. -/
def vK2 (K : List (Ky × Int)) (p : List Int) : Int := ((K.find? fun e => dl e.1 == p).map (·.2)).getD 0
theorem isPrefix_iff {p ds : List Int} : p.isPrefixOf ds = true ↔ p = ds.take p.length := by
  rw [List.isPrefixOf_iff_prefix]
  constructor
  · rintro ⟨t, rfl⟩; simp
  · intro h
    refine ⟨ds.drop p.length, ?_⟩
    have h2 := List.take_append_drop p.length ds
    rw [← h] at h2; exact h2
theorem cK_snoc (K : List (Ky × Int)) (k : Ky) (x : Int) (p : List Int) : cK (K ++ [(k, x)]) p = cK K p + if p.isPrefixOf (dl k) then 1 else 0 := by
  simp [cK, List.countP_append, List.countP_cons]
theorem cK_mono (K : List (Ky × Int)) (q : List Int) (e : Int) : cK K (q ++ [e]) ≤ cK K q := by
  refine List.countP_mono_left fun x _ h => ?_
  rw [List.isPrefixOf_iff_prefix] at h ⊢
  exact (List.prefix_append q [e]).trans h
theorem cK_nil (K : List (Ky × Int)) : cK K [] = K.length := by
  simp [cK]
theorem cK_le (K : List (Ky × Int)) (p : List Int) : cK K p ≤ K.length := List.countP_le_length
theorem cK_full {K : List (Ky × Int)} {k : Ky} (hk : WfK k) (hK : ∀ e ∈ K, WfK e.1) : 0 < cK K (dl k) ↔ ∃ e ∈ K, e.1 = k := by
  unfold cK
  rw [List.countP_pos_iff]
  constructor
  · rintro ⟨e, he, h⟩
    rw [isPrefix_iff, dl_len] at h
    have h2 : (dl e.1).take 26 = dl e.1 := List.take_of_length_le (by rw [dl_len]; omega)
    rw [h2] at h
    exact ⟨e, he, dl_inj (hK e he) hk h.symm⟩
  · rintro ⟨e, he, rfl⟩
    exact ⟨e, he, by rw [List.isPrefixOf_iff_prefix]; exact List.prefix_refl _⟩
theorem dep_full {K : List (Ky × Int)} {ds : List Int} : ∀ {m : Nat}, 0 < m → (dep (cK K) ds m = m ↔ 0 < cK K (ds.take m))
  | 0, h => by omega
  | m + 1, _ => by
    constructor
    · exact dep_top
    · intro h
      by_cases hm : 0 < m
      · refine dep_yes ((dep_full hm).2 ?_) h
        rcases Nat.lt_or_ge m ds.length with hl | hl
        · have := cK_mono K (ds.take m) ds[m]
          rw [List.take_succ_eq_append_getElem hl] at h
          omega
        · rw [List.take_of_length_le hl]; rw [List.take_of_length_le (by omega)] at h; exact h
      · obtain rfl : m = 0 := by omega
        exact dep_yes rfl h
end Go.Proofs.Ytmcfmhiadlkglaa.Sx
