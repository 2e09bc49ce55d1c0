/-
  My plain texts put together into one module.
-/
import Derived.Test.YtkhdejjompbklaaGreatOPb
namespace Go.Proofs.YtkhdejjompbklaaGreat.Sx
open Go
set_option linter.unusedVariables false
abbrev Nd := Int × (Nat → Int) × Int
def eN (r : Nd) : List Value := .int .i64 r.1 :: ((List.range 16).map (fun j => .int .i64 (r.2.1 j)) ++ [.int .i64 r.2.2])
theorem eN_len (r : Nd) : (eN r).length = 18 := by simp [eN]
theorem eN_get {r : Nd} {d : Nat} (h : d < 16) : (eN r)[1 + d]? = some (.int .i64 (r.2.1 d)) := by
  unfold eN
  rw [Nat.add_comm, List.getElem?_cons_succ, List.getElem?_append_left (by simpa using h), List.getElem?_map, List.getElem?_range h]; rfl
def updN (g : Nat → Int) (d : Nat) (v : Int) : Nat → Int := fun j => if j = d then v else g j
theorem lay_next {r : Nd} {d : Nat} (h : d < 16) (v : Int) : lay (eN r) (1 + d) [.int .i64 v] = eN (r.1, updN r.2.1 d v, r.2.2) := by
  simp only [lay, eN]
  rw [Nat.add_comm, List.set_cons_succ, List.set_append_left _ _ (by simpa using h)]
  congr 2
  apply List.ext_getElem
  · simp
  · intro i h1 h2
    simp only [List.length_set, List.length_map, List.length_range] at h1
    simp only [List.getElem_set, List.getElem_map, List.getElem_range, updN]
    by_cases e : d = i
    · subst e; simp
    · rw [if_neg e, if_neg (fun e' => e e'.symm)]
theorem lay_val {r : Nd} (v : Int) : lay (eN r) 17 [.int .i64 v] = eN (r.1, r.2.1, v) := by
  simp [lay, eN, List.range_succ]
def z0 : Nd := (0, fun _ => 0, 0)
structure Tr where
  nodes : List Nd
  free : List Nat
  most : Int
abbrev Tr.frees (T : Tr) : List Int := T.free.map fun i : Nat => (i : Int)
abbrev TrX := (Option Addr × Nat) × (Option Addr × Nat)
abbrev trieL (TA TN TI b : Nat) (T : Tr) (p : TrX) : List HP :=
  [blk b [.slice p.1.1 T.nodes.length p.1.2, .slice p.2.1 T.frees.length p.2.2, .int .i64 T.most] TA, sls p.1.1 T.nodes.length p.1.2 TN 18 (T.nodes.flatMap eN), sls p.2.1 T.frees.length p.2.2 TI 1 (T.frees.flatMap e1)]
def trieT (TA TN TI b : Nat) (T : Tr) : HP := box (fun _ : TrX => True) (trieL TA TN TI b T)
theorem Sep.trieE {TA TN TI b : Nat} {T : Tr} {l : List HP} {w : World} (h : Sep (trieT TA TN TI b T :: l) w) :
    ∃ r1 c1 r2 c2, Sep (blk b [.slice r1 T.nodes.length c1, .slice r2 T.frees.length c2, .int .i64 T.most] TA :: sls r1 T.nodes.length c1 TN 18 (T.nodes.flatMap eN) :: sls r2 T.frees.length c2 TI 1 (T.frees.flatMap e1) :: l) w :=
  let ⟨p, _, h2⟩ := h.boxE
  ⟨p.1.1, p.1.2, p.2.1, p.2.2, h2⟩
theorem Sep.trieI {TA TN TI b n1 n2 : Nat} {T : Tr} {r1 r2 : Option Addr} {c1 c2 : Nat} {l : List HP} {w : World} (h1 : n1 = T.nodes.length) (h2 : n2 = T.frees.length)
    (h : Sep (blk b [.slice r1 n1 c1, .slice r2 n2 c2, .int .i64 T.most] TA :: sls r1 n1 c1 TN 18 (T.nodes.flatMap eN) :: sls r2 n2 c2 TI 1 (T.frees.flatMap e1) :: l) w) : Sep (trieT TA TN TI b T :: l) w := by
  subst h1 h2
  exact Sep.boxI ((r1, c1), (r2, c2)) trivial h
structure WFD (ns : List Nd) (D : List Int → Prop) (c : List Int → Nat) (v : List Int → Int) (f : List Int → Nat) : Prop where
  root : f [] = 0
  droot : D []
  lt : ∀ p, D p → f p < ns.length
  inj : ∀ p q, D p → D q → f p = f q → p = q
  cnt : ∀ p nd, D p → ns[f p]? = some nd → nd.1 = c p
  nxt : ∀ p nd (d : Int), D p → ns[f p]? = some nd → p.length < 26 → 0 ≤ d → d < 16 → nd.2.1 d.toNat = if 0 < c (p ++ [d]) then (f (p ++ [d]) : Int) else 0
  val : ∀ p nd, D p → p.length = 26 → ns[f p]? = some nd → nd.2.2 = v p
  up : ∀ p, 0 < c p → D p
def dep (c : List Int → Nat) (ds : List Int) : Nat → Nat
  | 0 => 0
  | m + 1 => if dep c ds m = m ∧ 0 < c (ds.take (m + 1)) then m + 1 else dep c ds m
theorem dep_le (c : List Int → Nat) (ds : List Int) : ∀ m, dep c ds m ≤ m
  | 0 => Nat.le_refl _
  | m + 1 => by unfold dep; have := dep_le c ds m; split <;> omega
theorem dep_yes {c : List Int → Nat} {ds : List Int} {m : Nat} (h : dep c ds m = m) (hc : 0 < c (ds.take (m + 1))) : dep c ds (m + 1) = m + 1 := by unfold dep; rw [if_pos ⟨h, hc⟩]
theorem dep_no {c : List Int → Nat} {ds : List Int} {m : Nat} (h : dep c ds m = m) (hc : ¬ 0 < c (ds.take (m + 1))) : ∀ n, m < n → dep c ds n = m
  | 0, hn => by omega
  | n + 1, hn => by
    unfold dep
    by_cases e : n = m
    · subst e; rw [if_neg (fun x => hc x.2)]; exact h
    · have ih := dep_no h hc n (by omega)
      rw [if_neg (fun x => by rw [ih] at x; omega), ih]
theorem dep_pre {c : List Int → Nat} {ds : List Int} : ∀ {n m : Nat}, dep c ds n = n → m ≤ n → dep c ds m = m
  | 0, m, h, hm => by
    obtain rfl : m = 0 := by omega
    rfl
  | n + 1, m, h, hm => by
    by_cases e : m = n + 1
    · subst e; exact h
    · unfold dep at h
      split at h
      · rename_i hc; exact dep_pre hc.1 (by omega)
      · have := dep_le c ds n; omega
theorem dep_top {c : List Int → Nat} {ds : List Int} {n : Nat} (h : dep c ds (n + 1) = n + 1) : 0 < c (ds.take (n + 1)) := by
  unfold dep at h
  split at h
  · rename_i hc; exact hc.2
  · have := dep_le c ds n; omega
def findAt (c : List Int → Nat) (f : List Int → Nat) (ds : List Int) (m : Nat) : Int := if dep c ds m = m then (f (ds.take m) : Int) else -1
def findN (c : List Int → Nat) (ds : List Int) (m : Nat) : Int := (dep c ds m : Int) + 1
theorem find_yes {c : List Int → Nat} {f : List Int → Nat} {ds : List Int} {m : Nat} (h : dep c ds m = m) : findAt c f ds m = (f (ds.take m) : Int) := if_pos h
theorem find_yesN {c : List Int → Nat} {ds : List Int} {m : Nat} (h : dep c ds m = m) : findN c ds m = (m : Int) + 1 := by rw [findN, h]
theorem find_no {c : List Int → Nat} {f : List Int → Nat} {ds : List Int} {m x : Nat} (h : dep c ds x = x) (hx : x < m) (hc : ¬ 0 < c (ds.take (x + 1))) : findAt c f ds m = -1 ∧ findN c ds m = (x : Int) + 1 := by
  have := dep_no h hc m hx
  exact ⟨by rw [findAt, if_neg (by omega)], by rw [findN, this]⟩
section
variable {ns : List Nd} {D : List Int → Prop} {c : List Int → Nat} {v : List Int → Int} {f : List Int → Nat}
theorem WFD.at (h : WFD ns D c v f) {ds : List Int} {m : Nat} (hd : dep c ds m = m) : D (ds.take m) := by
  cases m with
  | zero => simpa using h.droot
  | succ m => exact h.up _ (dep_top hd)
theorem WFD.step (h : WFD ns D c v f) {k : Ky} {i : Nat} (hi : i < 26) (hd : dep c (dl k) i = i) : ∃ hlt : f ((dl k).take i) < ns.length,
    (ns[f ((dl k).take i)]).2.1 (dig k i).toNat = (if 0 < c ((dl k).take (i + 1)) then (f ((dl k).take (i + 1)) : Int) else 0) ∧ (0 < c ((dl k).take (i + 1)) → f ((dl k).take (i + 1)) ≠ 0 ∧ dep c (dl k) (i + 1) = i + 1) := by
  have hD := h.at hd
  have hlt := h.lt _ hD
  have hb := dig_bd k i
  refine ⟨hlt, ?_, fun hc => ⟨fun e => ?_, dep_yes hd hc⟩⟩
  · have := h.nxt _ _ (dig k i) hD (List.getElem?_eq_getElem hlt) (by rw [List.length_take, dl_len]; omega) hb.1 hb.2
    rw [this, dl_take hi]
  · have := h.inj _ [] (h.up _ hc) h.droot (by rw [e, h.root])
    have h2 := congrArg List.length this
    rw [List.length_take, dl_len] at h2
    simp at h2
end
end Go.Proofs.YtkhdejjompbklaaGreat.Sx
namespace Go.Proofs.YtkhdejjompbklaaGreat.Sx
open Go
set_option linter.unusedVariables false
def Pr (c : List Int → Nat) (p : List Int) : Prop := p = [] ∨ 0 < c p
structure FreeOK (ns : List Nd) (F : List Nat) (D : List Int → Prop) (f : List Int → Nat) : Prop where
  nodup : F.Nodup
  lt : ∀ i ∈ F, i < ns.length
  no : ∀ p, D p → f p ∉ F
  all : ∀ i, i < ns.length → i ∈ F ∨ ∃ p, D p ∧ f p = i
theorem snoc_inj {p q : List Int} {d e : Int} (h : p ++ [d] = q ++ [e]) : p = q ∧ d = e := by
  have := List.append_inj' h rfl
  exact ⟨this.1, by simpa using this.2⟩
theorem WFD.ext {ns : List Nd} {D D' : List Int → Prop} {c c' : List Int → Nat} {v : List Int → Int} {f : List Int → Nat} (h : WFD ns D c v f) (hD : ∀ p, D' p ↔ D p) (hc : ∀ p, c' p = c p) : WFD ns D' c' v f := by
  obtain rfl : c' = c := funext hc
  obtain rfl : D' = D := funext fun p => propext (hD p)
  exact h
theorem FreeOK.ext {ns : List Nd} {F : List Nat} {D D' : List Int → Prop} {f : List Int → Nat} (h : FreeOK ns F D f) (hD : ∀ p, D' p ↔ D p) : FreeOK ns F D' f := by
  obtain rfl : D' = D := funext fun p => propext (hD p)
  exact h
section
variable {ns : List Nd} {F : List Nat} {c : List Int → Nat} {v : List Int → Int} {f : List Int → Nat} {q : List Int}
theorem WFD.inc (hW : WFD ns (Pr c) c v f) (hF : FreeOK ns F (Pr c) f) (hq : Pr c q) (nd : Nd) (hnd : ns[f q]? = some nd) :
    WFD (ns.set (f q) (nd.1 + 1, nd.2.1, nd.2.2)) (Pr fun r => if r = q then c r + 1 else c r) (fun r => if r = q then c r + 1 else c r) v f ∧ FreeOK (ns.set (f q) (nd.1 + 1, nd.2.1, nd.2.2)) F (Pr fun r => if r = q then c r + 1 else c r) f := by
  have hD : ∀ r, Pr (fun r => if r = q then c r + 1 else c r) r ↔ Pr c r := by
    intro r
    unfold Pr
    by_cases e : r = q
    · subst e
      constructor
      · intro _; exact hq
      · intro _; right; simp
    · simp [e]
  have hlt := (List.getElem?_eq_some_iff.1 hnd).1
  have hget : ∀ r, Pr c r → ∀ x, (ns.set (f q) (nd.1 + 1, nd.2.1, nd.2.2))[f r]? = some x → (r = q ∧ x = (nd.1 + 1, nd.2.1, nd.2.2)) ∨ (r ≠ q ∧ ns[f r]? = some x) := by
    intro r hr x hx
    by_cases e : r = q
    · subst e
      rw [List.getElem?_set_self hlt] at hx
      exact .inl ⟨rfl, (Option.some.inj hx).symm⟩
    · rw [List.getElem?_set_ne (fun e2 => e (hW.inj _ _ hr hq e2.symm))] at hx
      exact .inr ⟨e, hx⟩
  refine ⟨⟨hW.root, (hD _).2 hW.droot, fun r hr => by rw [List.length_set]; exact hW.lt r ((hD r).1 hr), fun r s hr hs => hW.inj r s ((hD r).1 hr) ((hD s).1 hs), ?_, ?_, ?_, ?_⟩, ⟨hF.nodup, fun i hi => by rw [List.length_set]; exact hF.lt i hi, fun r hr => hF.no r ((hD r).1 hr), fun i hi => ?_⟩⟩
  · intro r x hr hx
    rcases hget r ((hD r).1 hr) x hx with ⟨e, rfl⟩ | ⟨e, hx⟩
    · subst e
      have := hW.cnt _ _ hq hnd
      simp [this]
    · rw [if_neg e]; exact hW.cnt r x ((hD r).1 hr) hx
  · intro r x d hr hx hl h0 h1
    have key : (if 0 < (if r ++ [d] = q then c (r ++ [d]) + 1 else c (r ++ [d])) then (f (r ++ [d]) : Int) else 0) = if 0 < c (r ++ [d]) then (f (r ++ [d]) : Int) else 0 := by
      by_cases e : r ++ [d] = q
      · rcases hq with hq0 | hq0
        · rw [hq0] at e; simp at e
        · rw [if_pos e, if_pos (by omega), e, if_pos hq0]
      · rw [if_neg e]
    rw [key]
    rcases hget r ((hD r).1 hr) x hx with ⟨e, rfl⟩ | ⟨e, hx⟩
    · subst e; exact hW.nxt _ nd d hq hnd hl h0 h1
    · exact hW.nxt r x d ((hD r).1 hr) hx hl h0 h1
  · intro r x hr hl hx
    rcases hget r ((hD r).1 hr) x hx with ⟨e, rfl⟩ | ⟨e, hx⟩
    · subst e; exact hW.val _ nd hq hl hnd
    · exact hW.val r x ((hD r).1 hr) hl hx
  · intro r hr
    exact .inr hr
  · rw [List.length_set] at hi
    rcases hF.all i hi with h | ⟨r, hr, e⟩
    · exact .inl h
    · exact .inr ⟨r, (hD r).2 hr, e⟩
theorem WFD.grow {p : List Int} {d : Int} {i : Nat} {ns' : List Nd} {F' : List Nat} (hW : WFD ns (Pr c) c v f) (hF : FreeOK ns F (Pr c) f) (hp : Pr c p) (hpl : p.length < 26) (hd : 0 ≤ d ∧ d < 16) (hq : q = p ++ [d]) (hc0 : c q = 0) (hch : ∀ e, c (q ++ [e]) = 0) (hv : q.length = 26 → v q = 0)
    (hlen : ns.length ≤ ns'.length) (hi : i < ns'.length) (hiD : ∀ r, Pr c r → f r ≠ i) (hsame : ∀ j, j ≠ i → j < ns.length → ns'[j]? = ns[j]?) (hz : ns'[i]? = some z0) (hF'n : F'.Nodup) (hF' : ∀ j, j ∈ F' ↔ j ∈ F ∧ j ≠ i) (hall : ∀ j, j < ns'.length → j = i ∨ j < ns.length)
    (nd : Nd) (hnd : ns'[f p]? = some nd) :
    WFD ((ns'.set (f p) (nd.1, updN nd.2.1 d.toNat i, nd.2.2)).set i (1, z0.2.1, z0.2.2)) (Pr fun r => if r = q then c r + 1 else c r) (fun r => if r = q then c r + 1 else c r) v (fun r => if r = q then i else f r) ∧
    FreeOK ((ns'.set (f p) (nd.1, updN nd.2.1 d.toNat i, nd.2.2)).set i (1, z0.2.1, z0.2.2)) F' (Pr fun r => if r = q then c r + 1 else c r) (fun r => if r = q then i else f r) := by
  have hqn : q ≠ [] := by rw [hq]; simp
  have hnq : ¬ Pr c q := fun h => h.elim hqn (fun h => by omega)
  have hD : ∀ r, Pr (fun r => if r = q then c r + 1 else c r) r ↔ Pr c r ∨ r = q := by
    intro r
    unfold Pr
    by_cases e : r = q
    · subst e; simp
    · simp [e]
  have hne : ∀ r, Pr c r → r ≠ q := fun r hr e => hnq (e ▸ hr)
  have hfp : f p ≠ i := hiD p hp
  have hflt := hW.lt p hp
  have hndo : ns[f p]? = some nd := by rw [← hsame _ hfp hflt]; exact hnd
  have hlt' : f p < ns'.length := by omega
  obtain ⟨N, hN⟩ : ∃ N, (ns'.set (f p) (nd.1, updN nd.2.1 d.toNat i, nd.2.2)).set i (1, z0.2.1, z0.2.2) = N := ⟨_, rfl⟩
  have hNl : N.length = ns'.length := by rw [← hN]; simp
  have hNi : N[i]? = some (1, z0.2.1, z0.2.2) := by rw [← hN, List.getElem?_set_self (by simpa using hi)]
  have hNp : N[f p]? = some (nd.1, updN nd.2.1 d.toNat i, nd.2.2) := by
    rw [← hN, List.getElem?_set_ne (fun e => hfp e.symm), List.getElem?_set_self hlt']
  have hNr : ∀ r, Pr c r → r ≠ p → N[f r]? = ns[f r]? := by
    intro r hr hrp
    have h1 := hiD r hr
    have h2 : f p ≠ f r := fun e => hrp (hW.inj _ _ hr hp e.symm)
    rw [← hN, List.getElem?_set_ne (fun e => h1 e.symm), List.getElem?_set_ne h2, hsame _ h1 (hW.lt r hr)]
  rw [hN]
  have hroot : (if ([] : List Int) = q then i else f []) = 0 := by rw [if_neg (fun e => hqn e.symm), hW.root]
  have hch2 : ∀ r (e : Int), r ++ [e] = q → r = p ∧ e = d := fun r e h => snoc_inj (h.trans hq)
  refine ⟨⟨hroot, (hD _).2 (.inl hW.droot), ?_, ?_, ?_, ?_, ?_, ?_⟩, ⟨hF'n, ?_, ?_, ?_⟩⟩
  · intro r hr
    rw [hNl]
    rcases (hD r).1 hr with h | h
    · rw [if_neg (hne r h)]; have := hW.lt r h; omega
    · rw [if_pos h]; exact hi
  · intro r s hr hs
    rcases (hD r).1 hr with h | h <;> rcases (hD s).1 hs with h' | h'
    · rw [if_neg (hne r h), if_neg (hne s h')]; exact hW.inj r s h h'
    · rw [if_neg (hne r h), if_pos h']; intro e; exact absurd e (hiD r h)
    · rw [if_pos h, if_neg (hne s h')]; intro e; exact absurd e.symm (hiD s h')
    · intro _; rw [h, h']
  · intro r x hr hx
    try dsimp only at hx
    rcases (hD r).1 hr with h | h
    · rw [if_neg (hne r h)] at hx ⊢
      by_cases e : r = p
      · subst e
        rw [hNp] at hx; cases hx
        exact hW.cnt r nd h hndo
      · rw [hNr r h e] at hx; exact hW.cnt r x h hx
    · rw [if_pos h] at hx ⊢
      rw [hNi] at hx; cases hx
      rw [h, hc0]; rfl
  · intro r x e hr hx hl h0 h1
    try dsimp only at hx ⊢
    rcases (hD r).1 hr with h | h
    · rw [if_neg (hne r h)] at hx
      by_cases er : r = p
      · subst er
        rw [hNp] at hx; cases hx
        dsimp only
        unfold updN
        by_cases ed : e = d
        · subst ed
          rw [if_pos rfl, ← hq, if_pos rfl, if_pos (by omega), if_pos rfl]
        · rw [if_neg (by omega)]
          have hnn : ¬ r ++ [e] = q := fun h9 => ed (hch2 r e h9).2
          rw [if_neg hnn, if_neg hnn]
          exact hW.nxt r nd e h hndo hl h0 h1
      · rw [hNr r h er] at hx
        have hnn : ¬ r ++ [e] = q := fun h9 => er (hch2 r e h9).1
        rw [if_neg hnn, if_neg hnn]
        exact hW.nxt r x e h hx hl h0 h1
    · rw [if_pos h] at hx
      rw [hNi] at hx; cases hx
      subst h
      have hnn : ¬ r ++ [e] = r := fun h9 => by have := congrArg List.length h9; simp at this
      rw [if_neg hnn, if_neg (by rw [hch e]; omega)]
      rfl
  · intro r x hr hl hx
    try dsimp only at hx
    rcases (hD r).1 hr with h | h
    · rw [if_neg (hne r h)] at hx
      by_cases e : r = p
      · subst e; omega
      · rw [hNr r h e] at hx; exact hW.val r x h hl hx
    · rw [if_pos h] at hx
      rw [hNi] at hx; cases hx
      subst h
      rw [hv hl]; rfl
  · intro r hr; exact .inr hr
  · intro j hj
    have h2 := (hF' j).1 hj
    have := hF.lt j h2.1
    omega
  · intro r hr hin
    try dsimp only at hin
    rcases (hD r).1 hr with h | h
    · rw [if_neg (hne r h)] at hin; exact hF.no r h ((hF' _).1 hin).1
    · rw [if_pos h] at hin; exact ((hF' _).1 hin).2 rfl
  · intro j hj
    rw [hNl] at hj
    by_cases e : j = i
    · exact .inr ⟨q, (hD q).2 (.inr rfl), by rw [if_pos rfl, e]⟩
    · rcases hall j hj with h | h
      · exact absurd h e
      · rcases hF.all j h with h2 | ⟨r, hr, e2⟩
        · exact .inl ((hF' j).2 ⟨h2, e⟩)
        · exact .inr ⟨r, (hD r).2 (.inl hr), by rw [if_neg (hne r hr)]; exact e2⟩
end
end Go.Proofs.YtkhdejjompbklaaGreat.Sx
namespace Go.Proofs.YtkhdejjompbklaaGreat.Sx
open Go
set_option linter.unusedVariables false
section
variable {ns : List Nd} {F : List Nat} {D : List Int → Prop} {c : List Int → Nat} {v : List Int → Int} {f : List Int → Nat} {q : List Int}
theorem WFD.dec (hW : WFD ns D c v f) (hq : D q) (hc : q = [] ∨ 1 < c q) (h0 : 1 ≤ c q) (nd : Nd) (hnd : ns[f q]? = some nd) :
    WFD (ns.set (f q) (nd.1 - 1, nd.2.1, nd.2.2)) D (fun r => if r = q then c r - 1 else c r) v f := by
  have hlt := (List.getElem?_eq_some_iff.1 hnd).1
  have hget : ∀ r, D r → ∀ x, (ns.set (f q) (nd.1 - 1, nd.2.1, nd.2.2))[f r]? = some x → (r = q ∧ x = (nd.1 - 1, nd.2.1, nd.2.2)) ∨ (r ≠ q ∧ ns[f r]? = some x) := by
    intro r hr x hx
    by_cases e : r = q
    · subst e
      rw [List.getElem?_set_self hlt] at hx
      exact .inl ⟨rfl, (Option.some.inj hx).symm⟩
    · rw [List.getElem?_set_ne (fun e2 => e (hW.inj _ _ hr hq e2.symm))] at hx
      exact .inr ⟨e, hx⟩
  refine ⟨hW.root, hW.droot, fun r hr => by rw [List.length_set]; exact hW.lt r hr, hW.inj, ?_, ?_, ?_, ?_⟩
  · intro r x hr hx
    rcases hget r hr x hx with ⟨e, rfl⟩ | ⟨e, hx⟩
    · subst e
      have := hW.cnt _ _ hq hnd
      dsimp only
      rw [if_pos rfl, this]; omega
    · rw [if_neg e]; exact hW.cnt r x hr hx
  · intro r x d hr hx hl h1 h2
    have key : (if 0 < (if r ++ [d] = q then c (r ++ [d]) - 1 else c (r ++ [d])) then (f (r ++ [d]) : Int) else 0) = if 0 < c (r ++ [d]) then (f (r ++ [d]) : Int) else 0 := by
      by_cases e : r ++ [d] = q
      · rcases hc with hq0 | hq0
        · rw [hq0] at e; simp at e
        · rw [if_pos e, if_pos (by rw [e]; omega), e, if_pos (show 0 < c q from h0)]
      · rw [if_neg e]
    rw [key]
    rcases hget r hr x hx with ⟨e, rfl⟩ | ⟨e, hx⟩
    · subst e; exact hW.nxt _ nd d hq hnd hl h1 h2
    · exact hW.nxt r x d hr hx hl h1 h2
  · intro r x hr hl hx
    rcases hget r hr x hx with ⟨e, rfl⟩ | ⟨e, hx⟩
    · subst e; exact hW.val _ nd hq hl hnd
    · exact hW.val r x hr hl hx
  · intro r hr
    refine hW.up r ?_
    by_cases e : r = q
    · rw [if_pos e] at hr; omega
    · rw [if_neg e] at hr; exact hr
theorem WFD.cut {p : List Int} {d : Int} (hW : WFD ns D c v f) (hp : D p) (hq : D q) (hpq : q = p ++ [d]) (hpl : p.length < 26) (hd : 0 ≤ d ∧ d < 16) (h1 : c q = 1) (nd : Nd) (hnd : ns[f q]? = some nd) (np : Nd) (hnp : (ns.set (f q) (nd.1 - 1, nd.2.1, nd.2.2))[f p]? = some np) :
    WFD ((ns.set (f q) (nd.1 - 1, nd.2.1, nd.2.2)).set (f p) (np.1, updN np.2.1 d.toNat 0, np.2.2)) D (fun r => if r = q then c r - 1 else c r) v f := by
  have hne : f p ≠ f q := fun e => by
    have h9 := hW.inj _ _ hp hq e
    rw [hpq] at h9
    have := congrArg List.length h9; simp at this
  have hlt := (List.getElem?_eq_some_iff.1 hnd).1
  have hplt := hW.lt p hp
  have hnp0 : ns[f p]? = some np := by rw [← hnp, List.getElem?_set_ne (fun e => hne e.symm)]
  obtain ⟨N, hN⟩ : ∃ N, (ns.set (f q) (nd.1 - 1, nd.2.1, nd.2.2)).set (f p) (np.1, updN np.2.1 d.toNat 0, np.2.2) = N := ⟨_, rfl⟩
  have hNl : N.length = ns.length := by rw [← hN]; simp
  have hNp : N[f p]? = some (np.1, updN np.2.1 d.toNat 0, np.2.2) := by rw [← hN, List.getElem?_set_self (by simpa using hplt)]
  have hNq : N[f q]? = some (nd.1 - 1, nd.2.1, nd.2.2) := by rw [← hN, List.getElem?_set_ne hne, List.getElem?_set_self hlt]
  have hNr : ∀ r, D r → r ≠ p → r ≠ q → N[f r]? = ns[f r]? := by
    intro r hr e1 e2
    have h2 : f p ≠ f r := fun e => e1 (hW.inj _ _ hr hp e.symm)
    have h3 : f q ≠ f r := fun e => e2 (hW.inj _ _ hr hq e.symm)
    rw [← hN, List.getElem?_set_ne h2, List.getElem?_set_ne h3]
  have hpnq : p ≠ q := fun e => hne (by rw [e])
  have hch : ∀ r (e : Int), r ++ [e] = q → r = p ∧ e = d := fun r e h => snoc_inj (h.trans hpq)
  rw [hN]
  refine ⟨hW.root, hW.droot, fun r hr => by rw [hNl]; exact hW.lt r hr, hW.inj, ?_, ?_, ?_, ?_⟩
  · intro r x hr hx
    by_cases e1 : r = p
    · subst e1
      rw [hNp] at hx; cases hx
      rw [if_neg hpnq]; exact hW.cnt r np hr hnp0
    · by_cases e2 : r = q
      · subst e2
        rw [hNq] at hx; cases hx
        have := hW.cnt r nd hr hnd
        rw [if_pos rfl]; dsimp only; omega
      · rw [hNr r hr e1 e2] at hx
        rw [if_neg e2]; exact hW.cnt r x hr hx
  · intro r x e hr hx hl h2 h3
    have old : r ++ [e] ≠ q → (if 0 < (if r ++ [e] = q then c (r ++ [e]) - 1 else c (r ++ [e])) then (f (r ++ [e]) : Int) else 0) = if 0 < c (r ++ [e]) then (f (r ++ [e]) : Int) else 0 := fun h => by rw [if_neg h]
    by_cases e1 : r = p
    · subst e1
      rw [hNp] at hx; cases hx
      show updN np.2.1 d.toNat 0 e.toNat = _
      unfold updN
      by_cases ed : e = d
      · subst ed
        rw [if_pos rfl, ← hpq, if_pos rfl, h1]; simp
      · rw [if_neg (by omega), old (fun h9 => ed (hch r e h9).2)]
        exact hW.nxt r np e hr hnp0 hl h2 h3
    · rw [old (fun h9 => e1 (hch r e h9).1)]
      by_cases e2 : r = q
      · subst e2
        rw [hNq] at hx; cases hx
        exact hW.nxt r nd e hr hnd hl h2 h3
      · rw [hNr r hr e1 e2] at hx
        exact hW.nxt r x e hr hx hl h2 h3
  · intro r x hr hl hx
    by_cases e1 : r = p
    · subst e1; omega
    · by_cases e2 : r = q
      · subst e2
        rw [hNq] at hx; cases hx
        exact hW.val r nd hr hl hnd
      · rw [hNr r hr e1 e2] at hx
        exact hW.val r x hr hl hx
  · intro r hr
    refine hW.up r ?_
    by_cases e : r = q
    · rw [if_pos e] at hr; omega
    · rw [if_neg e] at hr; exact hr
theorem WFD.less {D' : List Int → Prop} (hW : WFD ns D c v f) (h0 : D' []) (hD : ∀ p, D' p → D p) (hu : ∀ p, 0 < c p → D' p) : WFD ns D' c v f :=
  ⟨hW.root, h0, fun p hp => hW.lt p (hD p hp), fun p r hp hr => hW.inj p r (hD p hp) (hD r hr), fun p x hp => hW.cnt p x (hD p hp), fun p x d hp => hW.nxt p x d (hD p hp), fun p x hp => hW.val p x (hD p hp), hu⟩
theorem FreeOK.sets (hF : FreeOK ns F D f) (ns' : List Nd) (h : ns'.length = ns.length) : FreeOK ns' F D f :=
  ⟨hF.nodup, fun i hi => by rw [h]; exact hF.lt i hi, hF.no, fun i hi => hF.all i (by rw [← h]; exact hi)⟩
theorem FreeOK.rel (hF : FreeOK ns F D f) (hq : D q) (hlt : f q < ns.length) (hinj : ∀ r, D r → f r = f q → r = q) : FreeOK ns (F ++ [f q]) (fun r => D r ∧ r ≠ q) f := by
  refine ⟨?_, fun i hi => ?_, fun r hr hin => ?_, fun i hi => ?_⟩
  · rw [List.nodup_append]
    exact ⟨hF.nodup, by simp, fun a ha b hb e => by
      simp only [List.mem_singleton] at hb
      subst hb; subst e
      exact hF.no q hq ha⟩
  · rcases List.mem_append.1 hi with h | h
    · exact hF.lt i h
    · simp only [List.mem_singleton] at h; omega
  · rcases List.mem_append.1 hin with h | h
    · exact hF.no r hr.1 h
    · simp only [List.mem_singleton] at h
      exact hr.2 (hinj r hr.1 h)
  · rcases hF.all i hi with h | ⟨r, hr, e⟩
    · exact .inl (List.mem_append_left _ h)
    · by_cases e2 : r = q
      · left; rw [← e, e2]; simp
      · exact .inr ⟨r, ⟨hr, e2⟩, e⟩
end
def cK (K : List (Ky × Int)) (p : List Int) : Nat := K.countP fun e => p.isPrefixOf (dl e.1)
def vK2 (K : List (Ky × Int)) (p : List Int) : Int := ((K.find? fun e => dl e.1 == p).map (·.2)).getD 0
theorem isPrefix_iff {p ds : List Int} : p.isPrefixOf ds = true ↔ p = ds.take p.length := by
  rw [List.isPrefixOf_iff_prefix]
  constructor
  · rintro ⟨t, rfl⟩; simp
  · intro h
    refine ⟨ds.drop p.length, ?_⟩
    have h2 := List.take_append_drop p.length ds
    rw [← h] at h2; exact h2
theorem cK_snoc (K : List (Ky × Int)) (k : Ky) (x : Int) (p : List Int) : cK (K ++ [(k, x)]) p = cK K p + if p.isPrefixOf (dl k) then 1 else 0 := by
  simp [cK, List.countP_append, List.countP_cons]
theorem cK_mono (K : List (Ky × Int)) (q : List Int) (e : Int) : cK K (q ++ [e]) ≤ cK K q := by
  refine List.countP_mono_left fun x _ h => ?_
  rw [List.isPrefixOf_iff_prefix] at h ⊢
  exact (List.prefix_append q [e]).trans h
theorem cK_nil (K : List (Ky × Int)) : cK K [] = K.length := by
  simp [cK]
theorem cK_le (K : List (Ky × Int)) (p : List Int) : cK K p ≤ K.length := List.countP_le_length
theorem cK_full {K : List (Ky × Int)} {k : Ky} (hk : WfK k) (hK : ∀ e ∈ K, WfK e.1) : 0 < cK K (dl k) ↔ ∃ e ∈ K, e.1 = k := by
  unfold cK
  rw [List.countP_pos_iff]
  constructor
  · rintro ⟨e, he, h⟩
    rw [isPrefix_iff, dl_len] at h
    have h2 : (dl e.1).take 26 = dl e.1 := List.take_of_length_le (by rw [dl_len]; omega)
    rw [h2] at h
    exact ⟨e, he, dl_inj (hK e he) hk h.symm⟩
  · rintro ⟨e, he, rfl⟩
    exact ⟨e, he, by rw [List.isPrefixOf_iff_prefix]; exact List.prefix_refl _⟩
theorem dep_full {K : List (Ky × Int)} {ds : List Int} : ∀ {m : Nat}, 0 < m → (dep (cK K) ds m = m ↔ 0 < cK K (ds.take m))
  | 0, h => by omega
  | m + 1, _ => by
    constructor
    · exact dep_top
    · intro h
      by_cases hm : 0 < m
      · refine dep_yes ((dep_full hm).2 ?_) h
        rcases Nat.lt_or_ge m ds.length with hl | hl
        · have := cK_mono K (ds.take m) ds[m]
          rw [List.take_succ_eq_append_getElem hl] at h
          omega
        · rw [List.take_of_length_le hl]; rw [List.take_of_length_le (by omega)] at h; exact h
      · obtain rfl : m = 0 := by omega
        exact dep_yes rfl h
end Go.Proofs.YtkhdejjompbklaaGreat.Sx
namespace Go.Proofs.YtkhdejjompbklaaGreat.Sx
open Go
set_option linter.unusedVariables false
def bg (ds : List Int) (i : Nat) (r : List Int) : Prop := r.length ≤ i ∧ r = ds.take r.length
instance (ds : List Int) (i : Nat) (r : List Int) : Decidable (bg ds i r) := inferInstanceAs (Decidable (_ ∧ _))
theorem bg_succ {ds : List Int} {i : Nat} (hi : i < ds.length) (r : List Int) : bg ds (i + 1) r ↔ bg ds i r ∨ r = ds.take (i + 1) := by
  unfold bg
  constructor
  · rintro ⟨h1, h2⟩
    rcases Nat.lt_or_ge r.length (i + 1) with h | h
    · exact .inl ⟨by omega, h2⟩
    · right
      have : r.length = i + 1 := by omega
      rw [this] at h2; exact h2
  · rintro (⟨h1, h2⟩ | h)
    · exact ⟨by omega, h2⟩
    · have hl : r.length = i + 1 := by rw [h, List.length_take]; omega
      exact ⟨by omega, by rw [hl]; exact h⟩
theorem bg_not {ds : List Int} {i : Nat} (hi : i < ds.length) : ¬ bg ds i (ds.take (i + 1)) := by
  rintro ⟨h, _⟩
  rw [List.length_take] at h; omega
theorem bg_zero {ds : List Int} (r : List Int) : bg ds 0 r ↔ r = [] := by
  unfold bg
  constructor
  · rintro ⟨h, _⟩; exact List.eq_nil_of_length_eq_zero (by omega)
  · rintro rfl; simp
theorem bg_all {k : Ky} (r : List Int) : bg (dl k) 26 r ↔ r.isPrefixOf (dl k) = true := by
  rw [isPrefix_iff]
  unfold bg
  constructor
  · exact fun h => h.2
  · intro h
    refine ⟨?_, h⟩
    rw [h, List.length_take, dl_len]; omega
def cP (c : List Int → Nat) (ds : List Int) (i : Nat) (r : List Int) : Nat := c r + if bg ds i r then 1 else 0
def cO (c : List Int → Nat) (ds : List Int) (i : Nat) (r : List Int) : Nat := c r - if bg ds i r then 1 else 0
theorem cP_zero (c : List Int → Nat) (ds : List Int) (r : List Int) : cP c ds 0 r = if r = [] then c r + 1 else c r := by
  unfold cP
  by_cases h : r = []
  · rw [if_pos ((bg_zero r).2 h), if_pos h]
  · rw [if_neg (fun x => h ((bg_zero r).1 x)), if_neg h]; rfl
theorem cO_zero (c : List Int → Nat) (ds : List Int) (r : List Int) : cO c ds 0 r = if r = [] then c r - 1 else c r := by
  unfold cO
  by_cases h : r = []
  · rw [if_pos ((bg_zero r).2 h), if_pos h]
  · rw [if_neg (fun x => h ((bg_zero r).1 x)), if_neg h]; rfl
theorem cP_succ (c : List Int → Nat) {ds : List Int} {i : Nat} (hi : i < ds.length) (r : List Int) : cP c ds (i + 1) r = if r = ds.take (i + 1) then cP c ds i r + 1 else cP c ds i r := by
  unfold cP
  by_cases h : r = ds.take (i + 1)
  · subst h
    rw [if_pos ((bg_succ hi _).2 (.inr rfl)), if_pos rfl, if_neg (bg_not hi)]
  · rw [if_neg h]
    by_cases hb : bg ds i r
    · rw [if_pos hb, if_pos ((bg_succ hi _).2 (.inl hb))]
    · rw [if_neg hb, if_neg (fun x => ((bg_succ hi _).1 x).elim hb h)]
theorem cO_succ (c : List Int → Nat) {ds : List Int} {i : Nat} (hi : i < ds.length) (r : List Int) : cO c ds (i + 1) r = if r = ds.take (i + 1) then cO c ds i r - 1 else cO c ds i r := by
  unfold cO
  by_cases h : r = ds.take (i + 1)
  · subst h
    rw [if_pos ((bg_succ hi _).2 (.inr rfl)), if_pos rfl, if_neg (bg_not hi)]; rfl
  · rw [if_neg h]
    by_cases hb : bg ds i r
    · rw [if_pos hb, if_pos ((bg_succ hi _).2 (.inl hb))]
    · rw [if_neg hb, if_neg (fun x => ((bg_succ hi _).1 x).elim hb h)]
theorem cP_all (K : List (Ky × Int)) (k : Ky) (x : Int) (r : List Int) : cK (K ++ [(k, x)]) r = cP (cK K) (dl k) 26 r := by
  rw [cK_snoc, cP]
  by_cases h : bg (dl k) 26 r
  · rw [if_pos h, if_pos ((bg_all r).1 h)]
  · rw [if_neg h, if_neg (fun y => h ((bg_all r).2 y))]
structure TW (T : Tr) (K : List (Ky × Int)) (most : Int) : Prop where
  wf : ∃ f, WFD T.nodes (Pr (cK K)) (cK K) (vK2 K) f ∧ FreeOK T.nodes T.free (Pr (cK K)) f
  mo : T.most = most
  bd : (K.length : Int) ≤ most ∧ most ≤ 8192
  keys : ∀ e ∈ K, WfK e.1
  nodup : (K.map Prod.fst).Nodup
  nb : T.nodes.length ≤ 300001
def has (K : List (Ky × Int)) (k : Ky) : Prop := ∃ e ∈ K, e.1 = k
def findV (K : List (Ky × Int)) (k : Ky) : Option Int := (K.find? fun e => e.1 == k).map (·.2)
theorem has_iff {K : List (Ky × Int)} {k : Ky} (hk : WfK k) (hK : ∀ e ∈ K, WfK e.1) : dep (cK K) (dl k) 26 = 26 ↔ has K k := by
  rw [dep_full (by omega), show (dl k).take 26 = dl k from List.take_of_length_le (by rw [dl_len]; omega), cK_full hk hK]; rfl
theorem vK2_eq {K : List (Ky × Int)} {k : Ky} (hk : WfK k) (hK : ∀ e ∈ K, WfK e.1) : vK2 K (dl k) = (findV K k).getD 0 := by
  unfold vK2 findV
  have : (K.find? fun e => dl e.1 == dl k) = K.find? fun e => e.1 == k := by
    induction K with
    | nil => rfl
    | cons e K ih =>
      have ih := ih fun x hx => hK x (List.mem_cons_of_mem _ hx)
      by_cases h : e.1 = k
      · simp [h]
      · have h2 : dl e.1 ≠ dl k := fun h3 => h (dl_inj (hK e List.mem_cons_self) hk h3)
        rw [List.find?_cons, List.find?_cons]
        simp only [beq_eq_false_iff_ne.2 h, beq_eq_false_iff_ne.2 h2]
        exact ih
  rw [this]
theorem findV_some {K : List (Ky × Int)} {k : Ky} : (findV K k).isSome = true ↔ has K k := by
  unfold findV has
  rw [Option.isSome_map, List.find?_isSome]
  simp
structure PutI (K : List (Ky × Int)) (k : Ky) (most : Int) (i a : Nat) (T : Tr) (f : List Int → Nat) : Prop where
  wf : WFD T.nodes (Pr (cP (cK K) (dl k) i)) (cP (cK K) (dl k) i) (fun p => if p = dl k then 0 else vK2 K p) f
  fr : FreeOK T.nodes T.free (Pr (cP (cK K) (dl k) i)) f
  at' : a = f ((dl k).take i)
  mo : T.most = most
theorem WFD.vals {ns : List Nd} {D : List Int → Prop} {c : List Int → Nat} {v v' : List Int → Int} {f : List Int → Nat} (h : WFD ns D c v f) (hv : ∀ p, D p → p.length = 26 → v' p = v p) : WFD ns D c v' f :=
  ⟨h.root, h.droot, h.lt, h.inj, h.cnt, h.nxt, fun p x hp hl hx => by rw [hv p hp hl]; exact h.val p x hp hl hx, h.up⟩
theorem PutI.start {T : Tr} {K : List (Ky × Int)} {most : Int} {k : Ky} (h : TW T K most) (hk : WfK k) (hn : ¬ has K k) {nd : Nd} (hnd : T.nodes[0]? = some nd) :
    ∃ f, PutI K k most 0 0 { T with nodes := T.nodes.set 0 (nd.1 + 1, nd.2.1, nd.2.2) } f := by
  obtain ⟨f, hW, hF⟩ := h.wf
  have hr := hW.root
  have hW2 := hW.vals (v' := fun p => if p = dl k then 0 else vK2 K p) fun p hp hl => by
    have : p ≠ dl k := by
      rintro rfl
      rcases hp with e | e
      · rw [e] at hl; simp at hl
      · exact hn ((cK_full hk h.keys).1 e)
    rw [if_neg this]
  have hnd2 : T.nodes[f []]? = some nd := by rw [hr]; exact hnd
  obtain ⟨h1, h2⟩ := hW2.inc hF (.inl rfl) nd hnd2
  have hc : cP (cK K) (dl k) 0 = fun r => if r = [] then cK K r + 1 else cK K r := funext (cP_zero _ _)
  refine ⟨f, ?_, ?_, ?_, h.mo⟩
  · rw [hc]; rw [hr] at h1; exact h1
  · rw [hc]; rw [hr] at h2; exact h2
  · rw [List.take_zero, hr]
theorem PutI.next {T : Tr} {K : List (Ky × Int)} {most : Int} {k : Ky} {i a : Nat} {f : List Int → Nat} (h : PutI K k most i a T f) (hi : i < 26) : ∃ hlt : a < T.nodes.length,
    (T.nodes[a]).2.1 (dig k i).toNat = (if 0 < cK K ((dl k).take (i + 1)) then (f ((dl k).take (i + 1)) : Int) else 0) ∧
    (0 < cK K ((dl k).take (i + 1)) → 0 < f ((dl k).take (i + 1)) ∧ f ((dl k).take (i + 1)) < T.nodes.length) := by
  have hds : i < (dl k).length := by rw [dl_len]; exact hi
  have hD : Pr (cP (cK K) (dl k) i) ((dl k).take i) := by
    cases i with
    | zero => exact .inl rfl
    | succ i => right; unfold cP; rw [if_pos (show bg (dl k) (i + 1) _ from ⟨by rw [List.length_take]; omega, by rw [List.length_take, dl_len, Nat.min_eq_left (by omega)]⟩)]; omega
  have hlt := h.wf.lt _ hD
  rw [← h.at'] at hlt
  have hb := dig_bd k i
  have hcq : cP (cK K) (dl k) i ((dl k).take (i + 1)) = cK K ((dl k).take (i + 1)) := by unfold cP; rw [if_neg (bg_not hds)]; rfl
  refine ⟨hlt, ?_, fun hc => ?_⟩
  · have := h.wf.nxt _ (T.nodes[a]) (dig k i) hD (by rw [← h.at']; exact List.getElem?_eq_getElem hlt) (by rw [List.length_take, dl_len]; omega) hb.1 hb.2
    rw [this, ← dl_take hi, hcq]
  · have hDq : Pr (cP (cK K) (dl k) i) ((dl k).take (i + 1)) := .inr (by rw [hcq]; exact hc)
    refine ⟨?_, h.wf.lt _ hDq⟩
    rcases Nat.eq_zero_or_pos (f ((dl k).take (i + 1))) with e | e
    · have h2 := h.wf.inj _ [] hDq h.wf.droot (by rw [e, h.wf.root])
      have h3 := congrArg List.length h2
      rw [List.length_take, dl_len] at h3
      simp at h3
    · exact e
theorem PutI.old {T : Tr} {K : List (Ky × Int)} {most : Int} {k : Ky} {i a : Nat} {f : List Int → Nat} (h : PutI K k most i a T f) (hi : i < 26) (hc : 0 < cK K ((dl k).take (i + 1))) {nd : Nd} (hnd : T.nodes[f ((dl k).take (i + 1))]? = some nd) :
    PutI K k most (i + 1) (f ((dl k).take (i + 1))) { T with nodes := T.nodes.set (f ((dl k).take (i + 1))) (nd.1 + 1, nd.2.1, nd.2.2) } f := by
  have hds : i < (dl k).length := by rw [dl_len]; exact hi
  have hcq : cP (cK K) (dl k) i ((dl k).take (i + 1)) = cK K ((dl k).take (i + 1)) := by unfold cP; rw [if_neg (bg_not hds)]; rfl
  obtain ⟨h1, h2⟩ := h.wf.inc h.fr (q := (dl k).take (i + 1)) (.inr (by rw [hcq]; exact hc)) nd hnd
  have hcs : cP (cK K) (dl k) (i + 1) = fun r => if r = (dl k).take (i + 1) then cP (cK K) (dl k) i r + 1 else cP (cK K) (dl k) i r := funext (cP_succ _ hds)
  exact ⟨by rw [hcs]; exact h1, by rw [hcs]; exact h2, rfl, h.mo⟩
def freshI (T : Tr) : Nat := T.free.getLast?.getD T.nodes.length
def freshT (T : Tr) : Tr := if T.free = [] then { T with nodes := T.nodes ++ [z0] } else { T with nodes := T.nodes.set (freshI T) z0, free := T.free.dropLast }
theorem PutI.new {T : Tr} {K : List (Ky × Int)} {most : Int} {k : Ky} {i a : Nat} {f : List Int → Nat} (h : PutI K k most i a T f) (hi : i < 26) (hc : ¬ 0 < cK K ((dl k).take (i + 1))) :
    ∃ (hlt : a < (freshT T).nodes.length) (hne : a ≠ freshI T) (hlf : freshI T < (freshT T).nodes.length) (f' : List Int → Nat), (freshT T).nodes[freshI T] = z0 ∧
    PutI K k most (i + 1) (freshI T) { freshT T with nodes := ((freshT T).nodes.set a (((freshT T).nodes[a]).1, updN ((freshT T).nodes[a]).2.1 (dig k i).toNat (freshI T), ((freshT T).nodes[a]).2.2)).set (freshI T) (1, z0.2.1, z0.2.2) } f' := by
  have hds : i < (dl k).length := by rw [dl_len]; exact hi
  have hcq : cP (cK K) (dl k) i ((dl k).take (i + 1)) = 0 := by unfold cP; rw [if_neg (bg_not hds)]; omega
  have hD : Pr (cP (cK K) (dl k) i) ((dl k).take i) := by
    cases i with
    | zero => exact .inl rfl
    | succ i => right; unfold cP; rw [if_pos (show bg (dl k) (i + 1) _ from ⟨by rw [List.length_take]; omega, by rw [List.length_take, dl_len, Nat.min_eq_left (by omega)]⟩)]; omega
  have hlt0 := h.wf.lt _ hD
  rw [← h.at'] at hlt0
  have hcs : cP (cK K) (dl k) (i + 1) = fun r => if r = (dl k).take (i + 1) then cP (cK K) (dl k) i r + 1 else cP (cK K) (dl k) i r := funext (cP_succ _ hds)
  have hch : ∀ e, cP (cK K) (dl k) i ((dl k).take (i + 1) ++ [e]) = 0 := by
    intro e
    have := cK_mono K ((dl k).take (i + 1)) e
    unfold cP
    rw [if_neg (fun x => by have := x.1; rw [List.length_append, List.length_take, dl_len] at this; simp at this; omega)]
    omega
  have hv : ((dl k).take (i + 1)).length = 26 → (fun p => if p = dl k then 0 else vK2 K p) ((dl k).take (i + 1)) = 0 := by
    intro hl
    rw [List.length_take, dl_len] at hl
    have : (dl k).take (i + 1) = dl k := List.take_of_length_le (by rw [dl_len]; omega)
    dsimp only
    rw [this, if_pos rfl]
  have fin : ∀ (T1 : Tr) (i0 : Nat), T1 = freshT T → i0 = freshI T → (T.nodes.length ≤ T1.nodes.length ∧ i0 < T1.nodes.length ∧ (∀ r, Pr (cP (cK K) (dl k) i) r → f r ≠ i0) ∧ (∀ j, j ≠ i0 → j < T.nodes.length → T1.nodes[j]? = T.nodes[j]?) ∧ T1.nodes[i0]? = some z0 ∧ T1.free.Nodup ∧ (∀ j, j ∈ T1.free ↔ j ∈ T.free ∧ j ≠ i0) ∧ (∀ j, j < T1.nodes.length → j = i0 ∨ j < T.nodes.length) ∧ T1.most = T.most) →
      ∃ (hlt : a < T1.nodes.length) (hne : a ≠ i0) (hlf : i0 < T1.nodes.length) (f' : List Int → Nat), T1.nodes[i0] = z0 ∧ PutI K k most (i + 1) i0 { T1 with nodes := (T1.nodes.set a ((T1.nodes[a]).1, updN (T1.nodes[a]).2.1 (dig k i).toNat i0, (T1.nodes[a]).2.2)).set i0 (1, z0.2.1, z0.2.2) } f' := by
    rintro T1 i0 - - ⟨h1, h2, h3, h4, h5, h6, h7, h8, h9⟩
    have hlt : a < T1.nodes.length := by omega
    have hne : a ≠ i0 := by rw [h.at']; exact h3 _ hD
    obtain ⟨g1, g2⟩ := h.wf.grow h.fr hD (by rw [List.length_take, dl_len]; omega) (dig_bd k i) (dl_take hi) hcq hch hv h1 h2 h3 h4 h5 h6 h7 h8 (T1.nodes[a]) (by rw [← h.at']; exact List.getElem?_eq_getElem hlt)
    rw [← h.at'] at g1 g2
    refine ⟨hlt, hne, h2, (fun r => if r = (dl k).take (i + 1) then i0 else f r), by rw [List.getElem?_eq_getElem h2] at h5; exact Option.some.inj h5, ?_, ?_, ?_, by rw [h9]; exact h.mo⟩
    · rw [hcs]; exact g1
    · rw [hcs]; exact g2
    · rw [if_pos rfl]
  refine fin _ _ rfl rfl ?_
  by_cases hf : T.free = []
  · have e1 : freshI T = T.nodes.length := by simp [freshI, hf]
    have e2 : freshT T = { T with nodes := T.nodes ++ [z0] } := by rw [freshT, if_pos hf]
    rw [e1, e2]
    refine ⟨by simp, by simp, fun r hr => ?_, fun j hj hjl => ?_, ?_, ?_, fun j => ?_, fun j hj => ?_, rfl⟩
    · have := h.wf.lt r hr; omega
    · exact List.getElem?_append_left hjl
    · simp
    · exact h.fr.nodup
    · rw [hf]; simp
    · simp at hj; omega
  · have hne : T.free ≠ [] := hf
    have e0 : T.free.getLast? = some (T.free.getLast hne) := List.getLast?_eq_some_getLast hne
    have e1 : freshI T = T.free.getLast hne := by simp [freshI, e0]
    have e2 : freshT T = { T with nodes := T.nodes.set (freshI T) z0, free := T.free.dropLast } := by rw [freshT, if_neg hf]
    have hin : freshI T ∈ T.free := by rw [e1]; exact List.getLast_mem hne
    have hil := h.fr.lt _ hin
    have hsp : T.free = T.free.dropLast ++ [freshI T] := by rw [e1]; exact (List.dropLast_concat_getLast hne).symm
    have hnd := h.fr.nodup
    rw [hsp, List.nodup_append] at hnd
    rw [e2]
    refine ⟨by simp, by simpa using hil, fun r hr e => ?_, fun j hj hjl => ?_, ?_, hnd.1, fun j => ?_, fun j hj => ?_, rfl⟩
    · exact h.fr.no r hr (by rw [e]; exact hin)
    · exact List.getElem?_set_ne (fun e => hj e.symm)
    · exact List.getElem?_set_self hil
    · constructor
      · intro hj
        exact ⟨by rw [hsp]; exact List.mem_append_left _ hj, fun e => hnd.2.2 _ hj _ List.mem_cons_self e⟩
      · rintro ⟨hj, hj2⟩
        rw [hsp] at hj
        rcases List.mem_append.1 hj with h9 | h9
        · exact h9
        · exact absurd (by simpa using h9) hj2
    · right; simpa using hj
end Go.Proofs.YtkhdejjompbklaaGreat.Sx
namespace Go.Proofs.YtkhdejjompbklaaGreat.Sx
open Go
set_option linter.unusedVariables false
def trieA (TA TN TI b : Nat) (K : List (Ky × Int)) (most : Int) : HP := box (fun x : Tr × TrX => TW x.1 K most) (fun x => trieL TA TN TI b x.1 x.2)
theorem Sep.trieAE {TA TN TI b : Nat} {K : List (Ky × Int)} {most : Int} {l : List HP} {w : World} (h : Sep (trieA TA TN TI b K most :: l) w) :
    ∃ T r1 c1 r2 c2, TW T K most ∧ Sep (blk b [.slice r1 T.nodes.length c1, .slice r2 T.frees.length c2, .int .i64 T.most] TA :: sls r1 T.nodes.length c1 TN 18 (T.nodes.flatMap eN) :: sls r2 T.frees.length c2 TI 1 (T.frees.flatMap e1) :: l) w :=
  let ⟨x, h1, h2⟩ := h.boxE
  ⟨x.1, x.2.1.1, x.2.1.2, x.2.2.1, x.2.2.2, h1, h2⟩
theorem Sep.trieAI {TA TN TI b n1 n2 : Nat} {K : List (Ky × Int)} {most : Int} {T : Tr} {r1 r2 : Option Addr} {c1 c2 : Nat} {l : List HP} {w : World} (hT : TW T K most) (h1 : n1 = T.nodes.length) (h2 : n2 = T.frees.length)
    (h : Sep (blk b [.slice r1 n1 c1, .slice r2 n2 c2, .int .i64 T.most] TA :: sls r1 n1 c1 TN 18 (T.nodes.flatMap eN) :: sls r2 n2 c2 TI 1 (T.frees.flatMap e1) :: l) w) : Sep (trieA TA TN TI b K most :: l) w := by
  subst h1 h2
  exact Sep.boxI (T, (r1, c1), (r2, c2)) hT h
theorem Sep.slsTake {α : Type} {enc : α → List Value} {xs : List α} {r : Option Addr} {n c sz k : Nat} {T : TypeId} {l : List HP} {w : World} (h : Sep (sls r n c T sz (xs.flatMap enc) :: l) w) (hm : ∀ x, (enc x).length = sz) (hn : n = xs.length) (hk : k ≤ n) : Sep (sls r k c T sz ((xs.take k).flatMap enc) :: l) w := by
  subst hn
  rcases h.slsE with ⟨h1, h2, h3, h4, h5⟩ | ⟨b, rest, h1, h2, h3, h4, h5⟩
  · subst h1 h3
    obtain rfl : k = 0 := by omega
    simpa using h5.slsNil
  · subst h1
    have e : xs.flatMap enc = (xs.take k).flatMap enc ++ (xs.drop k).flatMap enc := by rw [← List.flatMap_append, List.take_append_drop]
    have hl := flat_len hm (xs.take k)
    rw [List.length_take, Nat.min_eq_left hk] at hl
    have hl2 := congrArg List.length e
    rw [List.length_append] at hl2
    refine Sep.slsI (rest := (xs.drop k).flatMap enc ++ rest) ?_ hl ?_ (by omega)
    · rw [← List.append_assoc, ← e]; exact h5
    · rw [List.length_append]; omega
theorem TW.pos {T : Tr} {K : List (Ky × Int)} {most : Int} (h : TW T K most) : 0 < T.nodes.length := by
  obtain ⟨f, hW, _⟩ := h.wf
  have := hW.lt [] hW.droot
  omega
theorem TW.new {most : Int} (h1 : 1 ≤ most) (h2 : most ≤ 8192) : TW { nodes := [z0], free := [], most := most } [] most := by
  have hP : ∀ p, Pr (cK []) p → p = [] := by
    intro p hp
    rcases hp with h | h
    · exact h
    · simp [cK] at h
  refine ⟨⟨fun _ => 0, ⟨rfl, .inl rfl, fun p _ => by simp, fun p q hp hq _ => by rw [hP p hp, hP q hq], ?_, ?_, ?_, fun p hp => .inr hp⟩, ⟨by simp, by simp, by simp, ?_⟩⟩, rfl, ⟨by simp; omega, h2⟩, by simp, by simp, by simp⟩
  · intro p x hp hx
    simp only [List.getElem?_cons_zero, Option.some.injEq] at hx
    subst hx; rw [hP p hp]; rfl
  · intro p x d hp hx hl h0 h1
    simp only [List.getElem?_cons_zero, Option.some.injEq] at hx
    subst hx
    rw [if_neg (by simp [cK])]; rfl
  · intro p x hp hl hx
    rw [hP p hp] at hl; simp at hl
  · intro i hi
    simp at hi
    exact .inr ⟨[], .inl rfl, hi.symm⟩
def pres (ks : List Ky) : List (List Int) := [] :: ks.flatMap fun k => (List.range 26).map fun i => (dl k).take (i + 1)
theorem pres_len (ks : List Ky) : (pres ks).length = 26 * ks.length + 1 := by
  unfold pres
  rw [List.length_cons]
  congr 1
  induction ks with
  | nil => rfl
  | cons k ks ih => rw [List.flatMap_cons, List.length_append, ih]; simp; omega
theorem pres_mem {ks : List Ky} {p : List Int} (h : p = [] ∨ ∃ k ∈ ks, p.isPrefixOf (dl k) = true) : p ∈ pres ks := by
  unfold pres
  rcases h with h | ⟨k, hk, hp⟩
  · rw [h]; exact List.mem_cons_self
  · by_cases e : p = []
    · rw [e]; exact List.mem_cons_self
    · refine List.mem_cons_of_mem _ (List.mem_flatMap.2 ⟨k, hk, List.mem_map.2 ?_⟩)
      rw [isPrefix_iff] at hp
      have hl : p.length ≤ 26 := by rw [hp, List.length_take, dl_len]; omega
      have h0 : 0 < p.length := List.length_pos_iff.2 e
      exact ⟨p.length - 1, by rw [List.mem_range]; omega, by rw [show p.length - 1 + 1 = p.length from by omega]; exact hp.symm⟩
theorem nodup_le2 {α : Type} [DecidableEq α] : ∀ {l1 l2 : List α}, l1.Nodup → (∀ x ∈ l1, x ∈ l2) → l1.length ≤ l2.length
  | [], _, _, _ => by simp
  | x :: l1, l2, h, hs => by
    rw [List.nodup_cons] at h
    have hx : x ∈ l2 := hs x List.mem_cons_self
    have h1 := nodup_le2 (l1 := l1) (l2 := l2.erase x) h.2 fun y hy => by
      have hne : y ≠ x := fun e => h.1 (e ▸ hy)
      exact (List.mem_erase_of_ne hne).2 (hs y (List.mem_cons_of_mem _ hy))
    have h2 := List.length_erase_of_mem hx
    have h3 : 0 < l2.length := List.length_pos_of_mem hx
    simp only [List.length_cons]; omega
theorem nodes_bd {ns : List Nd} {D : List Int → Prop} {f : List Int → Nat} {ks : List Ky} (h : FreeOK ns [] D f) (hD : ∀ p, D p → p = [] ∨ ∃ k ∈ ks, p.isPrefixOf (dl k) = true) : ns.length ≤ 26 * ks.length + 1 := by
  have h1 : (List.range ns.length).length ≤ ((pres ks).map f).length := nodup_le2 List.nodup_range fun i hi => by
    rw [List.mem_range] at hi
    rcases h.all i hi with h9 | ⟨p, hp, e⟩
    · simp at h9
    · exact List.mem_map.2 ⟨p, pres_mem (hD p hp), e⟩
  rw [List.length_range, List.length_map, pres_len] at h1
  exact h1
theorem PutI.bd {T : Tr} {K : List (Ky × Int)} {most : Int} {k : Ky} {i a : Nat} {f : List Int → Nat} (h : PutI K k most i a T f) (hK : (K.length : Int) ≤ 8192) (hf : T.free = []) : T.nodes.length ≤ 300000 := by
  have h2 := h.fr
  rw [hf] at h2
  have := nodes_bd (ks := k :: K.map (·.1)) h2 fun p hp => by
    rcases hp with e | e
    · exact .inl e
    · right
      unfold cP at e
      by_cases hb : bg (dl k) i p
      · exact ⟨k, List.mem_cons_self, isPrefix_iff.2 hb.2⟩
      · rw [if_neg hb] at e
        obtain ⟨x, hx, hp⟩ := List.countP_pos_iff.1 (show 0 < cK K p by omega)
        exact ⟨x.1, List.mem_cons_of_mem _ (List.mem_map_of_mem hx), hp⟩
  simp at this
  omega
theorem PutI.done {T : Tr} {K : List (Ky × Int)} {most : Int} {k : Ky} {a : Nat} {f : List Int → Nat} (h : PutI K k most 26 a T f) (hT : ∀ e ∈ K, WfK e.1) (hnd : (K.map Prod.fst).Nodup) (hk : WfK k) (hn : ¬ has K k) (hb : (K.length : Int) < most) (hm : most ≤ 8192) (hnb : T.nodes.length ≤ 300001) (x : Int) {nd : Nd} (hg : T.nodes[a]? = some nd) :
    TW { T with nodes := T.nodes.set a (nd.1, nd.2.1, x) } (K ++ [(k, x)]) most := by
  have hds : (dl k).take 26 = dl k := List.take_of_length_le (by rw [dl_len]; omega)
  have ha := h.at'
  rw [hds] at ha
  have hlt := (List.getElem?_eq_some_iff.1 hg).1
  have hDk : Pr (cP (cK K) (dl k) 26) (dl k) := by
    right; unfold cP; rw [if_pos (show bg (dl k) 26 (dl k) from ⟨by rw [dl_len]; omega, by rw [dl_len]; exact hds.symm⟩)]; omega
  have hget : ∀ p, Pr (cP (cK K) (dl k) 26) p → ∀ y, (T.nodes.set a (nd.1, nd.2.1, x))[f p]? = some y → (p = dl k ∧ y = (nd.1, nd.2.1, x)) ∨ (p ≠ dl k ∧ T.nodes[f p]? = some y) := by
    intro p hp y hy
    by_cases e : p = dl k
    · subst e
      rw [ha, List.getElem?_set_self (by rw [← ha]; exact hlt)] at hy
      exact .inl ⟨rfl, (Option.some.inj hy).symm⟩
    · rw [ha, List.getElem?_set_ne (fun e2 => e (h.wf.inj _ _ hp hDk e2.symm))] at hy
      exact .inr ⟨e, hy⟩
  have hgk : T.nodes[f (dl k)]? = some nd := by rw [← ha]; exact hg
  have hkeys : ∀ e ∈ K ++ [(k, x)], WfK e.1 := by
    intro e he
    rcases List.mem_append.1 he with h9 | h9
    · exact hT e h9
    · simp only [List.mem_singleton] at h9; subst h9; exact hk
  have hc : cK (K ++ [(k, x)]) = cP (cK K) (dl k) 26 := funext (cP_all K k x)
  refine ⟨⟨f, ?_, ?_⟩, h.mo, ⟨by simp; omega, hm⟩, hkeys, ?_, by simpa using hnb⟩
  · rw [hc]
    refine ⟨h.wf.root, h.wf.droot, fun p hp => by rw [List.length_set]; exact h.wf.lt p hp, h.wf.inj, ?_, ?_, ?_, h.wf.up⟩
    · intro p y hp hy
      rcases hget p hp y hy with ⟨rfl, rfl⟩ | ⟨_, hy⟩
      · exact h.wf.cnt _ nd hp hgk
      · exact h.wf.cnt p y hp hy
    · intro p y d hp hy
      rcases hget p hp y hy with ⟨rfl, rfl⟩ | ⟨_, hy⟩
      · exact h.wf.nxt _ nd d hp hgk
      · exact h.wf.nxt p y d hp hy
    · intro p y hp hl hy
      rcases hget p hp y hy with ⟨rfl, rfl⟩ | ⟨hne, hy⟩
      · rw [vK2_eq hk hkeys]
        unfold findV
        rw [List.find?_append]
        have : K.find? (fun e => e.1 == k) = none := by
          rw [List.find?_eq_none]
          intro e he hb2
          exact hn ⟨e, he, by simpa using hb2⟩
        rw [this]; simp
      · have := h.wf.val p y hp hl hy
        rw [if_neg hne] at this
        rw [this]
        unfold vK2
        rw [List.find?_append]
        have h5 : ([(k, x)] : List (Ky × Int)).find? (fun e => dl e.1 == p) = none := by
          rw [List.find?_eq_none]
          intro e he hb2
          simp only [List.mem_singleton] at he; subst he
          exact hne (by simpa using (beq_iff_eq.1 hb2).symm)
        rw [h5]; simp
  · rw [hc]; exact h.fr.sets _ (by simp)
  · rw [List.map_append, List.nodup_append]
    refine ⟨hnd, by simp, fun p hp q hq => ?_⟩
    simp only [List.map_cons, List.map_nil, List.mem_singleton] at hq
    subst hq
    rintro rfl
    obtain ⟨e, he, e2⟩ := List.mem_map.1 hp
    exact hn ⟨e, he, e2⟩
structure PutM (K : List (Ky × Int)) (k : Ky) (most : Int) (i nx : Nat) (N : List Nd) (F : List Nat) (mo : Int) : Prop where
  lt : nx < N.length
  cnt : 0 ≤ (N[nx]'lt).1 ∧ (N[nx]'lt).1 ≤ 8192
  fin : ∃ f, PutI K k most (i + 1) nx { nodes := N.set nx ((N[nx]'lt).1 + 1, (N[nx]'lt).2.1, (N[nx]'lt).2.2), free := F, most := mo } f
theorem PutI.mOld {T : Tr} {K : List (Ky × Int)} {most : Int} {k : Ky} {i a : Nat} {f : List Int → Nat} (h : PutI K k most i a T f) (hi : i < 26) (hK : (K.length : Int) ≤ 8192) (hc : 0 < cK K ((dl k).take (i + 1))) : PutM K k most i (f ((dl k).take (i + 1))) T.nodes T.free T.most := by
  have hds : i < (dl k).length := by rw [dl_len]; exact hi
  obtain ⟨_, _, h3⟩ := h.next hi
  have hlt := (h3 hc).2
  have hcq : cP (cK K) (dl k) i ((dl k).take (i + 1)) = cK K ((dl k).take (i + 1)) := by unfold cP; rw [if_neg (bg_not hds)]; rfl
  have hv := h.wf.cnt _ _ (.inr (by rw [hcq]; exact hc)) (List.getElem?_eq_getElem hlt)
  rw [hcq] at hv
  have := cK_le K ((dl k).take (i + 1))
  exact ⟨hlt, by omega, f, h.old hi hc (List.getElem?_eq_getElem hlt)⟩
theorem PutI.mNew {T : Tr} {K : List (Ky × Int)} {most : Int} {k : Ky} {i a : Nat} {f : List Int → Nat} (h : PutI K k most i a T f) (hi : i < 26) (hc : ¬ 0 < cK K ((dl k).take (i + 1))) : ∃ (hlt : a < (freshT T).nodes.length),
    PutM K k most i (freshI T) ((freshT T).nodes.set a (((freshT T).nodes[a]).1, updN ((freshT T).nodes[a]).2.1 (dig k i).toNat (freshI T), ((freshT T).nodes[a]).2.2)) (freshT T).free (freshT T).most := by
  obtain ⟨hlt, hne, hlf, f', hz, hP⟩ := h.new hi hc
  have hz2 : ((freshT T).nodes.set a (((freshT T).nodes[a]).1, updN ((freshT T).nodes[a]).2.1 (dig k i).toNat (freshI T), ((freshT T).nodes[a]).2.2))[freshI T]'(by simpa using hlf) = z0 := by
    rw [List.getElem_set_ne hne]; exact hz
  refine ⟨hlt, by simpa using hlf, by rw [hz2]; decide, f', ?_⟩
  rw [hz2]
  exact hP
theorem freshT_len {T : Tr} (h : T.nodes.length ≤ 300001) (hf : T.free = [] → T.nodes.length ≤ 300000) : (freshT T).nodes.length ≤ 300001 := by
  unfold freshT
  split
  · rename_i e; have := hf e; simp; omega
  · simpa using h
def putE (K : List (Ky × Int)) (k : Ky) (most : Int) : Int := if (findV K k).isSome = true then 150 else if (K.length : Int) = most then 4 else 0
def putK (K : List (Ky × Int)) (k : Ky) (x most : Int) : List (Ky × Int) := if (findV K k).isSome = true then K else if (K.length : Int) = most then K else K ++ [(k, x)]
end Go.Proofs.YtkhdejjompbklaaGreat.Sx
namespace Go.Proofs.YtkhdejjompbklaaGreat.Sx
open Go
set_option linter.unusedVariables false
def outK (K : List (Ky × Int)) (k : Ky) : List (Ky × Int) := K.filter fun e => !(e.1 == k)
theorem outK_no {K : List (Ky × Int)} {k : Ky} (h : ¬ has K k) : outK K k = K := by
  unfold outK
  rw [List.filter_eq_self]
  intro e he
  simp only [Bool.not_eq_true', beq_eq_false_iff_ne, ne_eq]
  exact fun e2 => h ⟨e, he, e2⟩
theorem outK_has {K : List (Ky × Int)} {k : Ky} : ¬ has (outK K k) k := by
  rintro ⟨e, he, h⟩
  simp [outK, h] at he
theorem outK_count : ∀ {K : List (Ky × Int)} {k : Ky}, (K.map Prod.fst).Nodup → has K k → ∀ r, cK K r = cK (outK K k) r + if r.isPrefixOf (dl k) then 1 else 0
  | [], k, _, ⟨e, he, _⟩, _ => by simp at he
  | x :: K, k, hn, hh, r => by
    rw [List.map_cons, List.nodup_cons] at hn
    by_cases hx : x.1 = k
    · have hno : ¬ has K k := by
        rintro ⟨e, he, h⟩
        exact hn.1 (by rw [hx, ← h]; exact List.mem_map_of_mem he)
      have e1 : outK (x :: K) k = K := by
        have := outK_no hno
        unfold outK at this ⊢
        rw [List.filter_cons, if_neg (by simp [hx]), this]
      rw [e1]
      unfold cK
      rw [List.countP_cons, hx]
    · have hh2 : has K k := by
        obtain ⟨e, he, h⟩ := hh
        rcases List.mem_cons.1 he with h9 | h9
        · subst h9; exact absurd h hx
        · exact ⟨e, h9, h⟩
      have ih := outK_count hn.2 hh2 r
      have e1 : outK (x :: K) k = x :: outK K k := by
        unfold outK
        rw [List.filter_cons, if_pos (by simp [hx])]
      rw [e1]
      unfold cK at ih ⊢
      rw [List.countP_cons, List.countP_cons, ih]
      omega
theorem outK_cO {K : List (Ky × Int)} {k : Ky} (hn : (K.map Prod.fst).Nodup) (hh : has K k) (r : List Int) : cK (outK K k) r = cO (cK K) (dl k) 26 r := by
  have := outK_count hn hh r
  unfold cO
  by_cases h : bg (dl k) 26 r
  · rw [if_pos h]; rw [if_pos ((bg_all r).1 h)] at this; omega
  · rw [if_neg h]; rw [if_neg (fun y => h ((bg_all r).2 y))] at this; omega
theorem outK_len {K : List (Ky × Int)} {k : Ky} (hn : (K.map Prod.fst).Nodup) (hh : has K k) : (outK K k).length + 1 = K.length := by
  have := outK_count hn hh []
  rw [cK_nil, cK_nil] at this
  simpa using this.symm
structure OutI (K : List (Ky × Int)) (k : Ky) (most : Int) (i a : Nat) (T : Tr) (f : List Int → Nat) : Prop where
  wf : WFD T.nodes (Pr (cK K)) (cO (cK K) (dl k) i) (vK2 K) f
  fr : FreeOK T.nodes T.free (fun r => Pr (cK K) r ∧ ¬ (bg (dl k) i r ∧ r ≠ [] ∧ cK K r = 1)) f
  at' : a = f ((dl k).take i)
  mo : T.most = most
theorem OutI.start {T : Tr} {K : List (Ky × Int)} {most : Int} {k : Ky} (h : TW T K most) (hh : has K k) {nd : Nd} (hnd : T.nodes[0]? = some nd) :
    ∃ f, OutI K k most 0 0 { T with nodes := T.nodes.set 0 (nd.1 - 1, nd.2.1, nd.2.2) } f := by
  obtain ⟨f, hW, hF⟩ := h.wf
  have hr := hW.root
  have hnd2 : T.nodes[f []]? = some nd := by rw [hr]; exact hnd
  have h1 : 1 ≤ cK K [] := by
    rw [cK_nil]
    obtain ⟨e, he, _⟩ := hh
    exact List.length_pos_of_mem he
  have hd := hW.dec (.inl rfl) (.inl rfl) h1 nd hnd2
  have hc : cO (cK K) (dl k) 0 = fun r => if r = [] then cK K r - 1 else cK K r := funext (cO_zero _ _)
  refine ⟨f, ?_, ?_, by rw [List.take_zero, hr], h.mo⟩
  · rw [hc]; rw [hr] at hd; exact hd
  · refine (hF.sets _ (by simp)).ext fun r => ?_
    constructor
    · exact fun x => x.1
    · exact fun x => ⟨x, fun y => y.2.1 ((bg_zero r).1 y.1)⟩
theorem OutI.pos {T : Tr} {K : List (Ky × Int)} {most : Int} {k : Ky} {i a : Nat} {f : List Int → Nat} (h : OutI K k most i a T f) (hh : dep (cK K) (dl k) 26 = 26) {j : Nat} (hj : j < 26) : 0 < cK K ((dl k).take (j + 1)) := dep_top (dep_pre hh (by omega))
theorem OutI.next {T : Tr} {K : List (Ky × Int)} {most : Int} {k : Ky} {i a : Nat} {f : List Int → Nat} (h : OutI K k most i a T f) (hh : dep (cK K) (dl k) 26 = 26) (hi : i < 26) : ∃ (hlt : a < T.nodes.length) (hnl : f ((dl k).take (i + 1)) < T.nodes.length),
    (T.nodes[a]).2.1 (dig k i).toNat = (f ((dl k).take (i + 1)) : Int) ∧ (T.nodes[f ((dl k).take (i + 1))]).1 = cK K ((dl k).take (i + 1)) ∧ 0 < cK K ((dl k).take (i + 1)) ∧ a ≠ f ((dl k).take (i + 1)) := by
  have hds : i < (dl k).length := by rw [dl_len]; exact hi
  have hc := h.pos hh hi
  have hD : Pr (cK K) ((dl k).take i) := by
    cases i with
    | zero => exact .inl rfl
    | succ i => exact .inr (h.pos hh (by omega))
  have hDq : Pr (cK K) ((dl k).take (i + 1)) := .inr hc
  have hlt := h.wf.lt _ hD
  rw [← h.at'] at hlt
  have hnl := h.wf.lt _ hDq
  have hb := dig_bd k i
  have hcq : cO (cK K) (dl k) i ((dl k).take (i + 1)) = cK K ((dl k).take (i + 1)) := by unfold cO; rw [if_neg (bg_not hds)]; rfl
  refine ⟨hlt, hnl, ?_, ?_, hc, fun e => ?_⟩
  · have := h.wf.nxt _ (T.nodes[a]) (dig k i) hD (by rw [← h.at']; exact List.getElem?_eq_getElem hlt) (by rw [List.length_take, dl_len]; omega) hb.1 hb.2
    rw [this, ← dl_take hi, hcq, if_pos hc]
  · have := h.wf.cnt _ _ hDq (List.getElem?_eq_getElem hnl)
    rw [hcq] at this; exact this
  · rw [h.at'] at e
    have h2 := congrArg List.length (h.wf.inj _ _ hD hDq e)
    rw [List.length_take, List.length_take, dl_len] at h2
    omega
theorem OutI.more {T : Tr} {K : List (Ky × Int)} {most : Int} {k : Ky} {i a : Nat} {f : List Int → Nat} (h : OutI K k most i a T f) (hh : dep (cK K) (dl k) 26 = 26) (hi : i < 26) {nd : Nd} (hnd : T.nodes[f ((dl k).take (i + 1))]? = some nd) (hc : ¬ nd.1 - 1 = 0) :
    OutI K k most (i + 1) (f ((dl k).take (i + 1))) { T with nodes := T.nodes.set (f ((dl k).take (i + 1))) (nd.1 - 1, nd.2.1, nd.2.2) } f := by
  have hds : i < (dl k).length := by rw [dl_len]; exact hi
  have hp := h.pos hh hi
  have hcq : cO (cK K) (dl k) i ((dl k).take (i + 1)) = cK K ((dl k).take (i + 1)) := by unfold cO; rw [if_neg (bg_not hds)]; rfl
  have hv := h.wf.cnt _ _ (.inr hp) hnd
  rw [hcq] at hv
  have h1 := h.wf.dec (q := (dl k).take (i + 1)) (.inr hp) (.inr (by rw [hcq]; omega)) (by rw [hcq]; omega) nd hnd
  have hcs : cO (cK K) (dl k) (i + 1) = fun r => if r = (dl k).take (i + 1) then cO (cK K) (dl k) i r - 1 else cO (cK K) (dl k) i r := funext (cO_succ _ hds)
  refine ⟨by rw [hcs]; exact h1, (h.fr.sets _ (by simp)).ext fun r => ?_, rfl, h.mo⟩
  constructor
  · rintro ⟨x, y⟩; exact ⟨x, fun z => y ⟨(bg_succ hds r).2 (.inl z.1), z.2⟩⟩
  · rintro ⟨x, y⟩
    refine ⟨x, fun z => ?_⟩
    rcases (bg_succ hds r).1 z.1 with h9 | h9
    · exact y ⟨h9, z.2⟩
    · have := z.2.2; rw [h9] at this; omega
theorem OutI.last {T : Tr} {K : List (Ky × Int)} {most : Int} {k : Ky} {i a : Nat} {f : List Int → Nat} (h : OutI K k most i a T f) (hh : dep (cK K) (dl k) 26 = 26) (hi : i < 26) {nd : Nd} (hnd : T.nodes[f ((dl k).take (i + 1))]? = some nd) (hc : nd.1 - 1 = 0) {np : Nd}
    (hnp : (T.nodes.set (f ((dl k).take (i + 1))) (nd.1 - 1, nd.2.1, nd.2.2))[a]? = some np) :
    OutI K k most (i + 1) (f ((dl k).take (i + 1))) { T with nodes := (T.nodes.set (f ((dl k).take (i + 1))) (nd.1 - 1, nd.2.1, nd.2.2)).set a (np.1, updN np.2.1 (dig k i).toNat 0, np.2.2), free := T.free ++ [f ((dl k).take (i + 1))] } f := by
  have hds : i < (dl k).length := by rw [dl_len]; exact hi
  have hp := h.pos hh hi
  have hcq : cO (cK K) (dl k) i ((dl k).take (i + 1)) = cK K ((dl k).take (i + 1)) := by unfold cO; rw [if_neg (bg_not hds)]; rfl
  have hD : Pr (cK K) ((dl k).take i) := by
    cases i with
    | zero => exact .inl rfl
    | succ i => exact .inr (h.pos hh (by omega))
  have hv := h.wf.cnt _ _ (.inr hp) hnd
  rw [hcq] at hv
  have h1 := h.wf.cut (q := (dl k).take (i + 1)) hD (.inr hp) (dl_take hi) (by rw [List.length_take, dl_len]; omega) (dig_bd k i) (by rw [hcq]; omega) nd hnd np (by rw [← h.at']; exact hnp)
  rw [← h.at'] at h1
  have hcs : cO (cK K) (dl k) (i + 1) = fun r => if r = (dl k).take (i + 1) then cO (cK K) (dl k) i r - 1 else cO (cK K) (dl k) i r := funext (cO_succ _ hds)
  have hqn : (dl k).take (i + 1) ≠ [] := fun e => by have := congrArg List.length e; rw [List.length_take, dl_len] at this; simp at this
  have hDq : Pr (cK K) ((dl k).take (i + 1)) ∧ ¬ (bg (dl k) i ((dl k).take (i + 1)) ∧ (dl k).take (i + 1) ≠ [] ∧ cK K ((dl k).take (i + 1)) = 1) := ⟨.inr hp, fun x => bg_not hds x.1⟩
  refine ⟨by rw [hcs]; exact h1, ((h.fr.rel hDq (h.wf.lt _ (.inr hp)) fun r hr e => h.wf.inj _ _ hr.1 (.inr hp) e).sets _ (by simp)).ext fun r => ?_, rfl, h.mo⟩
  constructor
  · rintro ⟨x, y⟩
    refine ⟨⟨x, fun z => y ⟨(bg_succ hds r).2 (.inl z.1), z.2⟩⟩, fun e => ?_⟩
    subst e
    exact y ⟨(bg_succ hds _).2 (.inr rfl), hqn, by omega⟩
  · rintro ⟨⟨x, y⟩, z⟩
    refine ⟨x, fun u => ?_⟩
    rcases (bg_succ hds r).1 u.1 with h9 | h9
    · exact y ⟨h9, u.2⟩
    · exact z h9
theorem OutI.done {T : Tr} {K : List (Ky × Int)} {most : Int} {k : Ky} {a : Nat} {f : List Int → Nat} (h : OutI K k most 26 a T f) (hK : ∀ e ∈ K, WfK e.1) (hn : (K.map Prod.fst).Nodup) (hk : WfK k) (hh : has K k) (hb : (K.length : Int) ≤ most ∧ most ≤ 8192) (hnb : T.nodes.length ≤ 300001) : TW T (outK K k) most := by
  have hc : cO (cK K) (dl k) 26 = cK (outK K k) := (funext (outK_cO hn hh)).symm
  have hl := outK_len hn hh
  have hk2 : ∀ e ∈ outK K k, WfK e.1 := fun e he => hK e (List.mem_filter.1 he).1
  have hW := h.wf
  rw [hc] at hW
  have hcc : ∀ r, cK (outK K k) r = cK K r - if bg (dl k) 26 r then 1 else 0 := fun r => by rw [← hc]; rfl
  refine ⟨⟨f, ?_, ?_⟩, h.mo, by omega, hk2, ?_, hnb⟩
  · refine (hW.less (.inl rfl) (fun p hp => ?_) (fun p hp => .inr hp)).vals fun p hp hpl => ?_
    · rcases hp with e | e
      · exact .inl e
      · right; have := hcc p; omega
    · have hne : p ≠ dl k := by
        rintro rfl
        rcases hp with e | e
        · rw [e] at hpl; simp at hpl
        · exact outK_has ((cK_full hk hk2).1 e)
      unfold vK2 outK
      rw [List.find?_filter]
      have : (fun a : Ky × Int => decide ((!(a.1 == k)) = true ∧ (dl a.1 == p) = true)) = fun e => dl e.1 == p := by
        funext e
        by_cases h9 : e.1 = k
        · have : (dl e.1 == p) = false := by rw [h9]; exact beq_eq_false_iff_ne.2 (fun e2 => hne e2.symm)
          rw [this]; simp
        · simp only [beq_eq_false_iff_ne.2 h9, Bool.not_false, true_and, Bool.decide_eq_true]
      rw [this]
  · refine h.fr.ext fun r => ?_
    unfold Pr
    by_cases e : r = []
    · simp [e]
    · have h9 := hcc r
      constructor
      · rintro (x | x)
        · exact absurd x e
        · refine ⟨.inr (by omega), fun y => ?_⟩
          rw [if_pos y.1] at h9; omega
      · rintro ⟨x | x, y⟩
        · exact absurd x e
        · right
          by_cases hb2 : bg (dl k) 26 r
          · rw [if_pos hb2] at h9
            have : cK K r ≠ 1 := fun z => y ⟨hb2, e, z⟩
            omega
          · rw [if_neg hb2] at h9; omega
  · exact (List.Sublist.map Prod.fst List.filter_sublist).nodup hn
end Go.Proofs.YtkhdejjompbklaaGreat.Sx
namespace Go.Proofs.YtkhdejjompbklaaGreat.Sx
open Go
set_option linter.unusedVariables false
theorem findV_no {K : List (Ky × Int)} {k : Ky} (h : ¬ has K k) : findV K k = none := by
  cases e : findV K k with
  | none => rfl
  | some x => exact absurd (findV_some.1 (by rw [e]; rfl)) h
theorem findV_snoc {K : List (Ky × Int)} {k : Ky} {x : Int} (h : ¬ has K k) : findV (K ++ [(k, x)]) k = some x := by
  have h1 := findV_no h
  unfold findV at h1 ⊢
  rw [List.find?_append]
  rw [Option.map_eq_none_iff] at h1
  rw [h1]; simp
theorem putK_new {K : List (Ky × Int)} {k : Ky} {x most : Int} (h : ¬ has K k) (hl : (K.length : Int) < most) : putK K k x most = K ++ [(k, x)] := by
  rw [putK, if_neg (fun e => h (findV_some.1 e)), if_neg (by omega)]
theorem putK_has {K : List (Ky × Int)} {k : Ky} {x most : Int} (h : has K k) : putK K k x most = K := by rw [putK, if_pos (findV_some.2 h)]
theorem outK_snoc {K : List (Ky × Int)} {k : Ky} {x : Int} (h : ¬ has K k) : outK (K ++ [(k, x)]) k = K := by
  have := outK_no h
  unfold outK at this ⊢
  rw [List.filter_append, this]; simp
end Go.Proofs.YtkhdejjompbklaaGreat.Sx
