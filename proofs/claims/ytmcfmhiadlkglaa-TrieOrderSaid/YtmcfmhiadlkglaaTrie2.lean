/-
  Tries: one step of putting a key in, one of taking it out. Nothing of a program stands here.
-/
import Derived.Test.YtmcfmhiadlkglaaTrie
namespace Go.Proofs.Ytmcfmhiadlkglaa.Sx
open Go
set_option linter.unusedVariables false
def Pr (c : List Int → Nat) (p : List Int) : Prop := p = [] ∨ 0 < c p
structure FreeOK (ns : List Nd) (F : List Nat) (D : List Int → Prop) (f : List Int → Nat) : Prop where
  nodup : F.Nodup
  lt : ∀ i ∈ F, i < ns.length
  no : ∀ p, D p → f p ∉ F
  all : ∀ i, i < ns.length → i ∈ F ∨ ∃ p, D p ∧ f p = i
theorem snoc_inj {p q : List Int} {d e : Int} (h : p ++ [d] = q ++ [e]) : p = q ∧ d = e := by
  have := List.append_inj' h rfl
  exact ⟨this.1, by simpa using this.2⟩
theorem WFD.ext {ns : List Nd} {D D' : List Int → Prop} {c c' : List Int → Nat} {v : List Int → Int} {f : List Int → Nat} (h : WFD ns D c v f) (hD : ∀ p, D' p ↔ D p) (hc : ∀ p, c' p = c p) : WFD ns D' c' v f := by
  obtain rfl : c' = c := funext hc
  obtain rfl : D' = D := funext fun p => propext (hD p)
  exact h
theorem FreeOK.ext {ns : List Nd} {F : List Nat} {D D' : List Int → Prop} {f : List Int → Nat} (h : FreeOK ns F D f) (hD : ∀ p, D' p ↔ D p) : FreeOK ns F D' f := by
  obtain rfl : D' = D := funext fun p => propext (hD p)
  exact h
section
variable {ns : List Nd} {F : List Nat} {c : List Int → Nat} {v : List Int → Int} {f : List Int → Nat} {q : List Int}
/-- One more at a beginning that is there. -/
theorem WFD.inc (hW : WFD ns (Pr c) c v f) (hF : FreeOK ns F (Pr c) f) (hq : Pr c q) (nd : Nd) (hnd : ns[f q]? = some nd) :
    WFD (ns.set (f q) (nd.1 + 1, nd.2.1, nd.2.2)) (Pr fun r => if r = q then c r + 1 else c r) (fun r => if r = q then c r + 1 else c r) v f ∧ FreeOK (ns.set (f q) (nd.1 + 1, nd.2.1, nd.2.2)) F (Pr fun r => if r = q then c r + 1 else c r) f := by
  have hD : ∀ r, Pr (fun r => if r = q then c r + 1 else c r) r ↔ Pr c r := by
    intro r
    unfold Pr
    by_cases e : r = q
    · subst e
      constructor
      · intro _; exact hq
      · intro _; right; simp
    · simp [e]
  have hlt := (List.getElem?_eq_some_iff.1 hnd).1
  have hget : ∀ r, Pr c r → ∀ x, (ns.set (f q) (nd.1 + 1, nd.2.1, nd.2.2))[f r]? = some x → (r = q ∧ x = (nd.1 + 1, nd.2.1, nd.2.2)) ∨ (r ≠ q ∧ ns[f r]? = some x) := by
    intro r hr x hx
    by_cases e : r = q
    · subst e
      rw [List.getElem?_set_self hlt] at hx
      exact .inl ⟨rfl, (Option.some.inj hx).symm⟩
    · rw [List.getElem?_set_ne (fun e2 => e (hW.inj _ _ hr hq e2.symm))] at hx
      exact .inr ⟨e, hx⟩
  refine ⟨⟨hW.root, (hD _).2 hW.droot, fun r hr => by rw [List.length_set]; exact hW.lt r ((hD r).1 hr), fun r s hr hs => hW.inj r s ((hD r).1 hr) ((hD s).1 hs), ?_, ?_, ?_, ?_⟩, ⟨hF.nodup, fun i hi => by rw [List.length_set]; exact hF.lt i hi, fun r hr => hF.no r ((hD r).1 hr), fun i hi => ?_⟩⟩
  · intro r x hr hx
    rcases hget r ((hD r).1 hr) x hx with ⟨e, rfl⟩ | ⟨e, hx⟩
    · subst e
      have := hW.cnt _ _ hq hnd
      simp [this]
    · rw [if_neg e]; exact hW.cnt r x ((hD r).1 hr) hx
  · intro r x d hr hx hl h0 h1
    have key : (if 0 < (if r ++ [d] = q then c (r ++ [d]) + 1 else c (r ++ [d])) then (f (r ++ [d]) : Int) else 0) = if 0 < c (r ++ [d]) then (f (r ++ [d]) : Int) else 0 := by
      by_cases e : r ++ [d] = q
      · rcases hq with hq0 | hq0
        · rw [hq0] at e; simp at e
        · rw [if_pos e, if_pos (by omega), e, if_pos hq0]
      · rw [if_neg e]
    rw [key]
    rcases hget r ((hD r).1 hr) x hx with ⟨e, rfl⟩ | ⟨e, hx⟩
    · subst e; exact hW.nxt _ nd d hq hnd hl h0 h1
    · exact hW.nxt r x d ((hD r).1 hr) hx hl h0 h1
  · intro r x hr hl hx
    rcases hget r ((hD r).1 hr) x hx with ⟨e, rfl⟩ | ⟨e, hx⟩
    · subst e; exact hW.val _ nd hq hl hnd
    · exact hW.val r x ((hD r).1 hr) hl hx
  · intro r hr
    exact .inr hr
  · rw [List.length_set] at hi
    rcases hF.all i hi with h | ⟨r, hr, e⟩
    · exact .inl h
    · exact .inr ⟨r, (hD r).2 hr, e⟩
/-- A new node for a beginning that is not there: i is its place, ns' the nodes with it, cleared, F' the free ones that are left. -/
theorem WFD.grow {p : List Int} {d : Int} {i : Nat} {ns' : List Nd} {F' : List Nat} (hW : WFD ns (Pr c) c v f) (hF : FreeOK ns F (Pr c) f) (hp : Pr c p) (hpl : p.length < 26) (hd : 0 ≤ d ∧ d < 16) (hq : q = p ++ [d]) (hc0 : c q = 0) (hch : ∀ e, c (q ++ [e]) = 0) (hv : q.length = 26 → v q = 0)
    (hlen : ns.length ≤ ns'.length) (hi : i < ns'.length) (hiD : ∀ r, Pr c r → f r ≠ i) (hsame : ∀ j, j ≠ i → j < ns.length → ns'[j]? = ns[j]?) (hz : ns'[i]? = some z0) (hF'n : F'.Nodup) (hF' : ∀ j, j ∈ F' ↔ j ∈ F ∧ j ≠ i) (hall : ∀ j, j < ns'.length → j = i ∨ j < ns.length)
    (nd : Nd) (hnd : ns'[f p]? = some nd) :
    WFD ((ns'.set (f p) (nd.1, updN nd.2.1 d.toNat i, nd.2.2)).set i (1, z0.2.1, z0.2.2)) (Pr fun r => if r = q then c r + 1 else c r) (fun r => if r = q then c r + 1 else c r) v (fun r => if r = q then i else f r) ∧
    FreeOK ((ns'.set (f p) (nd.1, updN nd.2.1 d.toNat i, nd.2.2)).set i (1, z0.2.1, z0.2.2)) F' (Pr fun r => if r = q then c r + 1 else c r) (fun r => if r = q then i else f r) := by
  have hqn : q ≠ [] := by rw [hq]; simp
  have hnq : ¬ Pr c q := fun h => h.elim hqn (fun h => by omega)
  have hD : ∀ r, Pr (fun r => if r = q then c r + 1 else c r) r ↔ Pr c r ∨ r = q := by
    intro r
    unfold Pr
    by_cases e : r = q
    · subst e; simp
    · simp [e]
  have hne : ∀ r, Pr c r → r ≠ q := fun r hr e => hnq (e ▸ hr)
  have hfp : f p ≠ i := hiD p hp
  have hflt := hW.lt p hp
  have hndo : ns[f p]? = some nd := by rw [← hsame _ hfp hflt]; exact hnd
  have hlt' : f p < ns'.length := by omega
  obtain ⟨N, hN⟩ : ∃ N, (ns'.set (f p) (nd.1, updN nd.2.1 d.toNat i, nd.2.2)).set i (1, z0.2.1, z0.2.2) = N := ⟨_, rfl⟩
  have hNl : N.length = ns'.length := by rw [← hN]; simp
  have hNi : N[i]? = some (1, z0.2.1, z0.2.2) := by rw [← hN, List.getElem?_set_self (by simpa using hi)]
  have hNp : N[f p]? = some (nd.1, updN nd.2.1 d.toNat i, nd.2.2) := by
    rw [← hN, List.getElem?_set_ne (fun e => hfp e.symm), List.getElem?_set_self hlt']
  have hNr : ∀ r, Pr c r → r ≠ p → N[f r]? = ns[f r]? := by
    intro r hr hrp
    have h1 := hiD r hr
    have h2 : f p ≠ f r := fun e => hrp (hW.inj _ _ hr hp e.symm)
    rw [← hN, List.getElem?_set_ne (fun e => h1 e.symm), List.getElem?_set_ne h2, hsame _ h1 (hW.lt r hr)]
  rw [hN]
  have hroot : (if ([] : List Int) = q then i else f []) = 0 := by rw [if_neg (fun e => hqn e.symm), hW.root]
  have hch2 : ∀ r (e : Int), r ++ [e] = q → r = p ∧ e = d := fun r e h => snoc_inj (h.trans hq)
  refine ⟨⟨hroot, (hD _).2 (.inl hW.droot), ?_, ?_, ?_, ?_, ?_, ?_⟩, ⟨hF'n, ?_, ?_, ?_⟩⟩
  · intro r hr
    rw [hNl]
    rcases (hD r).1 hr with h | h
    · rw [if_neg (hne r h)]; have := hW.lt r h; omega
    · rw [if_pos h]; exact hi
  · intro r s hr hs
    rcases (hD r).1 hr with h | h <;> rcases (hD s).1 hs with h' | h'
    · rw [if_neg (hne r h), if_neg (hne s h')]; exact hW.inj r s h h'
    · rw [if_neg (hne r h), if_pos h']; intro e; exact absurd e (hiD r h)
    · rw [if_pos h, if_neg (hne s h')]; intro e; exact absurd e.symm (hiD s h')
    · intro _; rw [h, h']
  · intro r x hr hx
    try dsimp only at hx
    rcases (hD r).1 hr with h | h
    · rw [if_neg (hne r h)] at hx ⊢
      by_cases e : r = p
      · subst e
        rw [hNp] at hx; cases hx
        exact hW.cnt r nd h hndo
      · rw [hNr r h e] at hx; exact hW.cnt r x h hx
    · rw [if_pos h] at hx ⊢
      rw [hNi] at hx; cases hx
      rw [h, hc0]; rfl
  · intro r x e hr hx hl h0 h1
    try dsimp only at hx ⊢
    rcases (hD r).1 hr with h | h
    · rw [if_neg (hne r h)] at hx
      by_cases er : r = p
      · subst er
        rw [hNp] at hx; cases hx
        dsimp only
        unfold updN
        by_cases ed : e = d
        · subst ed
          rw [if_pos rfl, ← hq, if_pos rfl, if_pos (by omega), if_pos rfl]
        · rw [if_neg (by omega)]
          have hnn : ¬ r ++ [e] = q := fun h9 => ed (hch2 r e h9).2
          rw [if_neg hnn, if_neg hnn]
          exact hW.nxt r nd e h hndo hl h0 h1
      · rw [hNr r h er] at hx
        have hnn : ¬ r ++ [e] = q := fun h9 => er (hch2 r e h9).1
        rw [if_neg hnn, if_neg hnn]
        exact hW.nxt r x e h hx hl h0 h1
    · rw [if_pos h] at hx
      rw [hNi] at hx; cases hx
      subst h
      have hnn : ¬ r ++ [e] = r := fun h9 => by have := congrArg List.length h9; simp at this
      rw [if_neg hnn, if_neg (by rw [hch e]; omega)]
      rfl
  · intro r x hr hl hx
    try dsimp only at hx
    rcases (hD r).1 hr with h | h
    · rw [if_neg (hne r h)] at hx
      by_cases e : r = p
      · subst e; omega
      · rw [hNr r h e] at hx; exact hW.val r x h hl hx
    · rw [if_pos h] at hx
      rw [hNi] at hx; cases hx
      subst h
      rw [hv hl]; rfl
  · intro r hr; exact .inr hr
  · intro j hj
    have h2 := (hF' j).1 hj
    have := hF.lt j h2.1
    omega
  · intro r hr hin
    try dsimp only at hin
    rcases (hD r).1 hr with h | h
    · rw [if_neg (hne r h)] at hin; exact hF.no r h ((hF' _).1 hin).1
    · rw [if_pos h] at hin; exact ((hF' _).1 hin).2 rfl
  · intro j hj
    rw [hNl] at hj
    by_cases e : j = i
    · exact .inr ⟨q, (hD q).2 (.inr rfl), by rw [if_pos rfl, e]⟩
    · rcases hall j hj with h | h
      · exact absurd h e
      · rcases hF.all j h with h2 | ⟨r, hr, e2⟩
        · exact .inl ((hF' j).2 ⟨h2, e⟩)
        · exact .inr ⟨r, (hD r).2 (.inl hr), by rw [if_neg (hne r hr)]; exact e2⟩
end
end Go.Proofs.Ytmcfmhiadlkglaa.Sx
