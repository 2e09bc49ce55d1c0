/-
  Plain texts and walks, put together.
-/
import Derived.Test.YtkhdejjompbklaaGreatSx01
import Derived.WideKeyRuns
import Derived.MapKept
namespace Go.Proofs.YtkhdejjompbklaaGreat.Sx
open Go
set_option linter.unusedVariables false
set_option linter.unusedSimpArgs false
abbrev Nd := Int × (Nat → Int) × Int
def eN (r : Nd) : List Value := .int .i64 r.1 :: ((List.range 16).map (fun j => .int .i64 (r.2.1 j)) ++ [.int .i64 r.2.2])
theorem eN_len (r : Nd) : (eN r).length = 18 := by simp [eN]
theorem eN_get {r : Nd} {d : Nat} (h : d < 16) : (eN r)[1 + d]? = some (.int .i64 (r.2.1 d)) := by
  unfold eN;rw [Nat.add_comm, List.getElem?_cons_succ, List.getElem?_append_left (by simpa using h), List.getElem?_map, List.getElem?_range h];rfl
def updN (g : Nat → Int) (d : Nat) (v : Int) : Nat → Int := fun j => if j = d then v else g j
theorem lay_next {r : Nd} {d : Nat} (h : d < 16) (v : Int) : lay (eN r) (1 + d) [.int .i64 v] = eN (r.1, updN r.2.1 d v, r.2.2) := by
  simp only [lay, eN];rw [Nat.add_comm, List.set_cons_succ, List.set_append_left _ _ (by simpa using h)];congr 2;apply List.ext_getElem
  · simp
  · intro i h1 h2
    simp only [List.length_set, List.length_map, List.length_range] at h1;simp only [List.getElem_set, List.getElem_map, List.getElem_range, updN];by_cases e : d = i
    · subst e;simp
    · rw [if_neg e, if_neg (fun e' => e e'.symm)]
theorem lay_val {r : Nd} (v : Int) : lay (eN r) 17 [.int .i64 v] = eN (r.1, r.2.1, v) := by
  simp [lay, eN, List.range_succ]
def z0 : Nd := (0, fun _ => 0, 0)
structure Tr where
  nodes : List Nd
  free : List Nat
  most : Int
abbrev Tr.frees (T : Tr) : List Int := T.free.map fun i : Nat => (i : Int)
abbrev TrX := (Option Addr × Nat) × (Option Addr × Nat)
abbrev trieL (TA TN TI b : Nat) (T : Tr) (p : TrX) : List HP :=
  [blk b [.slice p.1.1 T.nodes.length p.1.2, .slice p.2.1 T.frees.length p.2.2, .int .i64 T.most] TA, sls p.1.1 T.nodes.length p.1.2 TN 18 (T.nodes.flatMap eN), sls p.2.1 T.frees.length p.2.2 TI 1 (T.frees.flatMap e1)]
def trieT (TA TN TI b : Nat) (T : Tr) : HP := box (fun _ : TrX => True) (trieL TA TN TI b T)
theorem Sep.trieE {TA TN TI b : Nat} {T : Tr} {l : List HP} {w : World} (h : Sep (trieT TA TN TI b T :: l) w) :
    ∃ r1 c1 r2 c2, Sep (blk b [.slice r1 T.nodes.length c1, .slice r2 T.frees.length c2, .int .i64 T.most] TA :: sls r1 T.nodes.length c1 TN 18 (T.nodes.flatMap eN) :: sls r2 T.frees.length c2 TI 1 (T.frees.flatMap e1) :: l) w :=
  let ⟨p, _, h2⟩ := h.boxE
  ⟨p.1.1, p.1.2, p.2.1, p.2.2, h2⟩
theorem Sep.trieI {TA TN TI b n1 n2 : Nat} {T : Tr} {r1 r2 : Option Addr} {c1 c2 : Nat} {l : List HP} {w : World} (h1 : n1 = T.nodes.length) (h2 : n2 = T.frees.length)
    (h : Sep (blk b [.slice r1 n1 c1, .slice r2 n2 c2, .int .i64 T.most] TA :: sls r1 n1 c1 TN 18 (T.nodes.flatMap eN) :: sls r2 n2 c2 TI 1 (T.frees.flatMap e1) :: l) w) : Sep (trieT TA TN TI b T :: l) w := by
  subst h1 h2;exact Sep.boxI ((r1, c1), (r2, c2)) trivial h
structure WFD (ns : List Nd) (D : List Int → Prop) (c : List Int → Nat) (v : List Int → Int) (f : List Int → Nat) : Prop where
  root : f [] = 0
  droot : D []
  lt : ∀ p, D p → f p < ns.length
  inj : ∀ p q, D p → D q → f p = f q → p = q
  cnt : ∀ p nd, D p → ns[f p]? = some nd → nd.1 = c p
  nxt : ∀ p nd (d : Int), D p → ns[f p]? = some nd → p.length < 26 → 0 ≤ d → d < 16 → nd.2.1 d.toNat = if 0 < c (p ++ [d]) then (f (p ++ [d]) : Int) else 0
  val : ∀ p nd, D p → p.length = 26 → ns[f p]? = some nd → nd.2.2 = v p
  up : ∀ p, 0 < c p → D p
def dep (c : List Int → Nat) (ds : List Int) : Nat → Nat
  | 0 => 0
  | m + 1 => if dep c ds m = m ∧ 0 < c (ds.take (m + 1)) then m + 1 else dep c ds m
theorem dep_le (c : List Int → Nat) (ds : List Int) : ∀ m, dep c ds m ≤ m
  | 0 => Nat.le_refl _
  | m + 1 => by unfold dep;have := dep_le c ds m;split <;> omega
theorem dep_yes {c : List Int → Nat} {ds : List Int} {m : Nat} (h : dep c ds m = m) (hc : 0 < c (ds.take (m + 1))) : dep c ds (m + 1) = m + 1 := by unfold dep;rw [if_pos ⟨h, hc⟩]
theorem dep_no {c : List Int → Nat} {ds : List Int} {m : Nat} (h : dep c ds m = m) (hc : ¬ 0 < c (ds.take (m + 1))) : ∀ n, m < n → dep c ds n = m
  | 0, hn => by omega
  | n + 1, hn => by
    unfold dep;by_cases e : n = m
    · subst e;rw [if_neg (fun x => hc x.2)];exact h
    · have ih := dep_no h hc n omQ
      rw [if_neg (fun x => by rw [ih] at x;omega), ih]
theorem dep_pre {c : List Int → Nat} {ds : List Int} : ∀ {n m : Nat}, dep c ds n = n → m ≤ n → dep c ds m = m
  | 0, m, h, hm => by
    obtain rfl : m = 0 := omQ;rfl
  | n + 1, m, h, hm => by
    by_cases e : m = n + 1
    · subst e;exact h
    · unfold dep at h
      split at h
      · rename_i hc;exact dep_pre hc.1 omQ
      · have := dep_le c ds n;omega
theorem dep_top {c : List Int → Nat} {ds : List Int} {n : Nat} (h : dep c ds (n + 1) = n + 1) : 0 < c (ds.take (n + 1)) := by
  unfold dep at h
  split at h
  · rename_i hc;exact hc.2
  · have := dep_le c ds n;omega
def findAt (c : List Int → Nat) (f : List Int → Nat) (ds : List Int) (m : Nat) : Int := if dep c ds m = m then (f (ds.take m) : Int) else -1
def findN (c : List Int → Nat) (ds : List Int) (m : Nat) : Int := (dep c ds m : Int) + 1
theorem find_yes {c : List Int → Nat} {f : List Int → Nat} {ds : List Int} {m : Nat} (h : dep c ds m = m) : findAt c f ds m = (f (ds.take m) : Int) := if_pos h
theorem find_yesN {c : List Int → Nat} {ds : List Int} {m : Nat} (h : dep c ds m = m) : findN c ds m = (m : Int) + 1 := by rw [findN, h]
theorem find_no {c : List Int → Nat} {f : List Int → Nat} {ds : List Int} {m x : Nat} (h : dep c ds x = x) (hx : x < m) (hc : ¬ 0 < c (ds.take (x + 1))) : findAt c f ds m = -1 ∧ findN c ds m = (x : Int) + 1 := by
  have := dep_no h hc m hx;exact ⟨by rw [findAt, if_neg omQ], by rw [findN, this]⟩
section
variable {ns : List Nd} {D : List Int → Prop} {c : List Int → Nat} {v : List Int → Int} {f : List Int → Nat}
theorem WFD.at (h : WFD ns D c v f) {ds : List Int} {m : Nat} (hd : dep c ds m = m) : D (ds.take m) := by
  cases m with
  | zero => simpa using h.droot
  | succ m => exact h.up _ (dep_top hd)
theorem WFD.step (h : WFD ns D c v f) {k : Ky} {i : Nat} (hi : i < 26) (hd : dep c (dl k) i = i) : ∃ hlt : f ((dl k).take i) < ns.length,
    (ns[f ((dl k).take i)]).2.1 (dig k i).toNat = (if 0 < c ((dl k).take (i + 1)) then (f ((dl k).take (i + 1)) : Int) else 0) ∧ (0 < c ((dl k).take (i + 1)) → f ((dl k).take (i + 1)) ≠ 0 ∧ dep c (dl k) (i + 1) = i + 1) := by
  have hD := h.at hd;have hlt := h.lt _ hD;have hb := dig_bd k i;refine ⟨hlt, ?_, fun hc => ⟨fun e => ?_, dep_yes hd hc⟩⟩
  · have := h.nxt _ _ (dig k i) hD (List.getElem?_eq_getElem hlt) (by rw [List.length_take, dl_len];omega) hb.1 hb.2
    rw [this, dl_take hi]
  · have := h.inj _ [] (h.up _ hc) h.droot (by rw [e, h.root])
    have h2 := congrArg List.length this;rw [List.length_take, dl_len] at h2;simp at h2
end
def Pr (c : List Int → Nat) (p : List Int) : Prop := p = [] ∨ 0 < c p
structure FreeOK (ns : List Nd) (F : List Nat) (D : List Int → Prop) (f : List Int → Nat) : Prop where
  nodup : F.Nodup
  lt : ∀ i ∈ F, i < ns.length
  no : ∀ p, D p → f p ∉ F
  all : ∀ i, i < ns.length → i ∈ F ∨ ∃ p, D p ∧ f p = i
theorem snoc_inj {p q : List Int} {d e : Int} (h : p ++ [d] = q ++ [e]) : p = q ∧ d = e := by
  have := List.append_inj' h rfl;exact ⟨this.1, by simpa using this.2⟩
theorem WFD.ext {ns : List Nd} {D D' : List Int → Prop} {c c' : List Int → Nat} {v : List Int → Int} {f : List Int → Nat} (h : WFD ns D c v f) (hD : ∀ p, D' p ↔ D p) (hc : ∀ p, c' p = c p) : WFD ns D' c' v f := by
  obtain rfl : c' = c := funext hc;obtain rfl : D' = D := funext fun p => propext (hD p);exact h
theorem FreeOK.ext {ns : List Nd} {F : List Nat} {D D' : List Int → Prop} {f : List Int → Nat} (h : FreeOK ns F D f) (hD : ∀ p, D' p ↔ D p) : FreeOK ns F D' f := by
  obtain rfl : D' = D := funext fun p => propext (hD p);exact h
section
variable {ns : List Nd} {F : List Nat} {c : List Int → Nat} {v : List Int → Int} {f : List Int → Nat} {q : List Int}
theorem WFD.inc (hW : WFD ns (Pr c) c v f) (hF : FreeOK ns F (Pr c) f) (hq : Pr c q) (nd : Nd) (hnd : ns[f q]? = some nd) :
    WFD (ns.set (f q) (nd.1 + 1, nd.2.1, nd.2.2)) (Pr fun r => if r = q then c r + 1 else c r) (fun r => if r = q then c r + 1 else c r) v f ∧ FreeOK (ns.set (f q) (nd.1 + 1, nd.2.1, nd.2.2)) F (Pr fun r => if r = q then c r + 1 else c r) f := by
  have hD : ∀ r, Pr (fun r => if r = q then c r + 1 else c r) r ↔ Pr c r := by
    intro r;unfold Pr;by_cases e : r = q
    · subst e
      constructor
      · intro _;exact hq
      · intro _;right;simp
    · simp [e]
  have hlt := (List.getElem?_eq_some_iff.1 hnd).1;have hget : ∀ r, Pr c r → ∀ x, (ns.set (f q) (nd.1 + 1, nd.2.1, nd.2.2))[f r]? = some x → (r = q ∧ x = (nd.1 + 1, nd.2.1, nd.2.2)) ∨ (r ≠ q ∧ ns[f r]? = some x) := by
    intro r hr x hx;by_cases e : r = q
    · subst e
      rw [List.getElem?_set_self hlt] at hx;exact .inl ⟨rfl, (Option.some.inj hx).symm⟩
    · rw [List.getElem?_set_ne (fun e2 => e (hW.inj _ _ hr hq e2.symm))] at hx
      exact .inr ⟨e, hx⟩
  refine ⟨⟨hW.root, (hD _).2 hW.droot, fun r hr => by rw [List.length_set];exact hW.lt r ((hD r).1 hr), fun r s hr hs => hW.inj r s ((hD r).1 hr) ((hD s).1 hs), ?_, ?_, ?_, ?_⟩, ⟨hF.nodup, fun i hi => by rw [List.length_set];exact hF.lt i hi, fun r hr => hF.no r ((hD r).1 hr), fun i hi => ?_⟩⟩
  · intro r x hr hx
    rcases hget r ((hD r).1 hr) x hx with ⟨e, rfl⟩ | ⟨e, hx⟩
    · subst e
      have := hW.cnt _ _ hq hnd;simp [this]
    · rw [if_neg e];exact hW.cnt r x ((hD r).1 hr) hx
  · intro r x d hr hx hl h0 h1
    have key : (if 0 < (if r ++ [d] = q then c (r ++ [d]) + 1 else c (r ++ [d])) then (f (r ++ [d]) : Int) else 0) = if 0 < c (r ++ [d]) then (f (r ++ [d]) : Int) else 0 := by
      by_cases e : r ++ [d] = q
      · rcases hq with hq0 | hq0
        · rw [hq0] at e;simp at e
        · rw [if_pos e, if_pos omQ, e, if_pos hq0]
      · rw [if_neg e]
    rw [key];rcases hget r ((hD r).1 hr) x hx with ⟨e, rfl⟩ | ⟨e, hx⟩
    · subst e;exact hW.nxt _ nd d hq hnd hl h0 h1
    · exact hW.nxt r x d ((hD r).1 hr) hx hl h0 h1
  · intro r x hr hl hx
    rcases hget r ((hD r).1 hr) x hx with ⟨e, rfl⟩ | ⟨e, hx⟩
    · subst e;exact hW.val _ nd hq hl hnd
    · exact hW.val r x ((hD r).1 hr) hl hx
  · intro r hr
    exact .inr hr
  · rw [List.length_set] at hi
    rcases hF.all i hi with h | ⟨r, hr, e⟩
    · exact .inl h
    · exact .inr ⟨r, (hD r).2 hr, e⟩
theorem WFD.grow {p : List Int} {d : Int} {i : Nat} {ns' : List Nd} {F' : List Nat} (hW : WFD ns (Pr c) c v f) (hF : FreeOK ns F (Pr c) f) (hp : Pr c p) (hpl : p.length < 26) (hd : 0 ≤ d ∧ d < 16) (hq : q = p ++ [d]) (hc0 : c q = 0) (hch : ∀ e, c (q ++ [e]) = 0) (hv : q.length = 26 → v q = 0)
    (hlen : ns.length ≤ ns'.length) (hi : i < ns'.length) (hiD : ∀ r, Pr c r → f r ≠ i) (hsame : ∀ j, j ≠ i → j < ns.length → ns'[j]? = ns[j]?) (hz : ns'[i]? = some z0) (hF'n : F'.Nodup) (hF' : ∀ j, j ∈ F' ↔ j ∈ F ∧ j ≠ i) (hall : ∀ j, j < ns'.length → j = i ∨ j < ns.length)
    (nd : Nd) (hnd : ns'[f p]? = some nd) :
    WFD ((ns'.set (f p) (nd.1, updN nd.2.1 d.toNat i, nd.2.2)).set i (1, z0.2.1, z0.2.2)) (Pr fun r => if r = q then c r + 1 else c r) (fun r => if r = q then c r + 1 else c r) v (fun r => if r = q then i else f r) ∧
    FreeOK ((ns'.set (f p) (nd.1, updN nd.2.1 d.toNat i, nd.2.2)).set i (1, z0.2.1, z0.2.2)) F' (Pr fun r => if r = q then c r + 1 else c r) (fun r => if r = q then i else f r) := by
  have hqn : q ≠ [] := by rw [hq];simp
  have hnq : ¬ Pr c q := fun h => h.elim hqn (fun h => omQ);have hD : ∀ r, Pr (fun r => if r = q then c r + 1 else c r) r ↔ Pr c r ∨ r = q := by
    intro r;unfold Pr;by_cases e : r = q
    · subst e;simp
    · simp [e]
  have hne : ∀ r, Pr c r → r ≠ q := fun r hr e => hnq (e ▸ hr);have hfp : f p ≠ i := hiD p hp;have hflt := hW.lt p hp;have hndo : ns[f p]? = some nd := by rw [← hsame _ hfp hflt];exact hnd
  have hlt' : f p < ns'.length := omQ;obtain ⟨N, hN⟩ : ∃ N, (ns'.set (f p) (nd.1, updN nd.2.1 d.toNat i, nd.2.2)).set i (1, z0.2.1, z0.2.2) = N := ⟨_, rfl⟩;have hNl : N.length = ns'.length := by rw [← hN];simp
  have hNi : N[i]? = some (1, z0.2.1, z0.2.2) := by rw [← hN, List.getElem?_set_self (by simpa using hi)]
  have hNp : N[f p]? = some (nd.1, updN nd.2.1 d.toNat i, nd.2.2) := by
    rw [← hN, List.getElem?_set_ne (fun e => hfp e.symm), List.getElem?_set_self hlt']
  have hNr : ∀ r, Pr c r → r ≠ p → N[f r]? = ns[f r]? := by
    intro r hr hrp;have h1 := hiD r hr;have h2 : f p ≠ f r := fun e => hrp (hW.inj _ _ hr hp e.symm);rw [← hN, List.getElem?_set_ne (fun e => h1 e.symm), List.getElem?_set_ne h2, hsame _ h1 (hW.lt r hr)]
  rw [hN];have hroot : (if ([] : List Int) = q then i else f []) = 0 := by rw [if_neg (fun e => hqn e.symm), hW.root]
  have hch2 : ∀ r (e : Int), r ++ [e] = q → r = p ∧ e = d := fun r e h => snoc_inj (h.trans hq);refine ⟨⟨hroot, (hD _).2 (.inl hW.droot), ?_, ?_, ?_, ?_, ?_, ?_⟩, ⟨hF'n, ?_, ?_, ?_⟩⟩
  · intro r hr
    rw [hNl];rcases (hD r).1 hr with h | h
    · rw [if_neg (hne r h)];have := hW.lt r h;omega
    · rw [if_pos h];exact hi
  · intro r s hr hs
    rcases (hD r).1 hr with h | h <;> rcases (hD s).1 hs with h' | h'
    · rw [if_neg (hne r h), if_neg (hne s h')];exact hW.inj r s h h'
    · rw [if_neg (hne r h), if_pos h'];intro e;exact absurd e (hiD r h)
    · rw [if_pos h, if_neg (hne s h')];intro e;exact absurd e.symm (hiD s h')
    · intro _;rw [h, h']
  · intro r x hr hx
    try dsimp only at hx
    rcases (hD r).1 hr with h | h
    · rw [if_neg (hne r h)] at hx ⊢
      by_cases e : r = p
      · subst e
        rw [hNp] at hx;cases hx;exact hW.cnt r nd h hndo
      · rw [hNr r h e] at hx;exact hW.cnt r x h hx
    · rw [if_pos h] at hx ⊢
      rw [hNi] at hx;cases hx;rw [h, hc0];rfl
  · intro r x e hr hx hl h0 h1
    try dsimp only at hx ⊢
    rcases (hD r).1 hr with h | h
    · rw [if_neg (hne r h)] at hx
      by_cases er : r = p
      · subst er
        rw [hNp] at hx;cases hx;dsimp only;unfold updN;by_cases ed : e = d
        · subst ed
          rw [if_pos rfl, ← hq, if_pos rfl, if_pos omQ, if_pos rfl]
        · rw [if_neg omQ]
          have hnn : ¬ r ++ [e] = q := fun h9 => ed (hch2 r e h9).2;rw [if_neg hnn, if_neg hnn];exact hW.nxt r nd e h hndo hl h0 h1
      · rw [hNr r h er] at hx
        have hnn : ¬ r ++ [e] = q := fun h9 => er (hch2 r e h9).1;rw [if_neg hnn, if_neg hnn];exact hW.nxt r x e h hx hl h0 h1
    · rw [if_pos h] at hx
      rw [hNi] at hx;cases hx;subst h;have hnn : ¬ r ++ [e] = r := fun h9 => by have := congrArg List.length h9;simp at this
      rw [if_neg hnn, if_neg (by rw [hch e];omega)];rfl
  · intro r x hr hl hx
    try dsimp only at hx
    rcases (hD r).1 hr with h | h
    · rw [if_neg (hne r h)] at hx
      by_cases e : r = p
      · subst e;omega
      · rw [hNr r h e] at hx;exact hW.val r x h hl hx
    · rw [if_pos h] at hx
      rw [hNi] at hx;cases hx;subst h;rw [hv hl];rfl
  · intro r hr;exact .inr hr
  · intro j hj
    have h2 := (hF' j).1 hj;have := hF.lt j h2.1;omega
  · intro r hr hin
    try dsimp only at hin
    rcases (hD r).1 hr with h | h
    · rw [if_neg (hne r h)] at hin;exact hF.no r h ((hF' _).1 hin).1
    · rw [if_pos h] at hin;exact ((hF' _).1 hin).2 rfl
  · intro j hj
    rw [hNl] at hj;by_cases e : j = i
    · exact .inr ⟨q, (hD q).2 (.inr rfl), by rw [if_pos rfl, e]⟩
    · rcases hall j hj with h | h
      · exact absurd h e
      · rcases hF.all j h with h2 | ⟨r, hr, e2⟩
        · exact .inl ((hF' j).2 ⟨h2, e⟩)
        · exact .inr ⟨r, (hD r).2 (.inl hr), by rw [if_neg (hne r hr)];exact e2⟩
end
section
variable {ns : List Nd} {F : List Nat} {D : List Int → Prop} {c : List Int → Nat} {v : List Int → Int} {f : List Int → Nat} {q : List Int}
theorem WFD.dec (hW : WFD ns D c v f) (hq : D q) (hc : q = [] ∨ 1 < c q) (h0 : 1 ≤ c q) (nd : Nd) (hnd : ns[f q]? = some nd) :
    WFD (ns.set (f q) (nd.1 - 1, nd.2.1, nd.2.2)) D (fun r => if r = q then c r - 1 else c r) v f := by
  have hlt := (List.getElem?_eq_some_iff.1 hnd).1;have hget : ∀ r, D r → ∀ x, (ns.set (f q) (nd.1 - 1, nd.2.1, nd.2.2))[f r]? = some x → (r = q ∧ x = (nd.1 - 1, nd.2.1, nd.2.2)) ∨ (r ≠ q ∧ ns[f r]? = some x) := by
    intro r hr x hx;by_cases e : r = q
    · subst e
      rw [List.getElem?_set_self hlt] at hx;exact .inl ⟨rfl, (Option.some.inj hx).symm⟩
    · rw [List.getElem?_set_ne (fun e2 => e (hW.inj _ _ hr hq e2.symm))] at hx
      exact .inr ⟨e, hx⟩
  refine ⟨hW.root, hW.droot, fun r hr => by rw [List.length_set];exact hW.lt r hr, hW.inj, ?_, ?_, ?_, ?_⟩
  · intro r x hr hx
    rcases hget r hr x hx with ⟨e, rfl⟩ | ⟨e, hx⟩
    · subst e
      have := hW.cnt _ _ hq hnd;dsimp only;rw [if_pos rfl, this];omega
    · rw [if_neg e];exact hW.cnt r x hr hx
  · intro r x d hr hx hl h1 h2
    have key : (if 0 < (if r ++ [d] = q then c (r ++ [d]) - 1 else c (r ++ [d])) then (f (r ++ [d]) : Int) else 0) = if 0 < c (r ++ [d]) then (f (r ++ [d]) : Int) else 0 := by
      by_cases e : r ++ [d] = q
      · rcases hc with hq0 | hq0
        · rw [hq0] at e;simp at e
        · rw [if_pos e, if_pos (by rw [e];omega), e, if_pos (show 0 < c q from h0)]
      · rw [if_neg e]
    rw [key];rcases hget r hr x hx with ⟨e, rfl⟩ | ⟨e, hx⟩
    · subst e;exact hW.nxt _ nd d hq hnd hl h1 h2
    · exact hW.nxt r x d hr hx hl h1 h2
  · intro r x hr hl hx
    rcases hget r hr x hx with ⟨e, rfl⟩ | ⟨e, hx⟩
    · subst e;exact hW.val _ nd hq hl hnd
    · exact hW.val r x hr hl hx
  · intro r hr
    refine hW.up r ?_;by_cases e : r = q
    · rw [if_pos e] at hr;omega
    · rw [if_neg e] at hr;exact hr
theorem WFD.cut {p : List Int} {d : Int} (hW : WFD ns D c v f) (hp : D p) (hq : D q) (hpq : q = p ++ [d]) (hpl : p.length < 26) (hd : 0 ≤ d ∧ d < 16) (h1 : c q = 1) (nd : Nd) (hnd : ns[f q]? = some nd) (np : Nd) (hnp : (ns.set (f q) (nd.1 - 1, nd.2.1, nd.2.2))[f p]? = some np) :
    WFD ((ns.set (f q) (nd.1 - 1, nd.2.1, nd.2.2)).set (f p) (np.1, updN np.2.1 d.toNat 0, np.2.2)) D (fun r => if r = q then c r - 1 else c r) v f := by
  have hne : f p ≠ f q := fun e => by
    have h9 := hW.inj _ _ hp hq e;rw [hpq] at h9;have := congrArg List.length h9;simp at this
  have hlt := (List.getElem?_eq_some_iff.1 hnd).1;have hplt := hW.lt p hp;have hnp0 : ns[f p]? = some np := by rw [← hnp, List.getElem?_set_ne (fun e => hne e.symm)]
  obtain ⟨N, hN⟩ : ∃ N, (ns.set (f q) (nd.1 - 1, nd.2.1, nd.2.2)).set (f p) (np.1, updN np.2.1 d.toNat 0, np.2.2) = N := ⟨_, rfl⟩;have hNl : N.length = ns.length := by rw [← hN];simp
  have hNp : N[f p]? = some (np.1, updN np.2.1 d.toNat 0, np.2.2) := by rw [← hN, List.getElem?_set_self (by simpa using hplt)]
  have hNq : N[f q]? = some (nd.1 - 1, nd.2.1, nd.2.2) := by rw [← hN, List.getElem?_set_ne hne, List.getElem?_set_self hlt]
  have hNr : ∀ r, D r → r ≠ p → r ≠ q → N[f r]? = ns[f r]? := by
    intro r hr e1 e2;have h2 : f p ≠ f r := fun e => e1 (hW.inj _ _ hr hp e.symm);have h3 : f q ≠ f r := fun e => e2 (hW.inj _ _ hr hq e.symm);rw [← hN, List.getElem?_set_ne h2, List.getElem?_set_ne h3]
  have hpnq : p ≠ q := fun e => hne (by rw [e]);have hch : ∀ r (e : Int), r ++ [e] = q → r = p ∧ e = d := fun r e h => snoc_inj (h.trans hpq);rw [hN];refine ⟨hW.root, hW.droot, fun r hr => by rw [hNl];exact hW.lt r hr, hW.inj, ?_, ?_, ?_, ?_⟩
  · intro r x hr hx
    by_cases e1 : r = p
    · subst e1
      rw [hNp] at hx;cases hx;rw [if_neg hpnq];exact hW.cnt r np hr hnp0
    · by_cases e2 : r = q
      · subst e2
        rw [hNq] at hx;cases hx;have := hW.cnt r nd hr hnd;rw [if_pos rfl];dsimp only;omega
      · rw [hNr r hr e1 e2] at hx
        rw [if_neg e2];exact hW.cnt r x hr hx
  · intro r x e hr hx hl h2 h3
    have old : r ++ [e] ≠ q → (if 0 < (if r ++ [e] = q then c (r ++ [e]) - 1 else c (r ++ [e])) then (f (r ++ [e]) : Int) else 0) = if 0 < c (r ++ [e]) then (f (r ++ [e]) : Int) else 0 := fun h => by rw [if_neg h]
    by_cases e1 : r = p
    · subst e1
      rw [hNp] at hx;cases hx;show updN np.2.1 d.toNat 0 e.toNat = _;unfold updN;by_cases ed : e = d
      · subst ed
        rw [if_pos rfl, ← hpq, if_pos rfl, h1];simp
      · rw [if_neg omQ, old (fun h9 => ed (hch r e h9).2)]
        exact hW.nxt r np e hr hnp0 hl h2 h3
    · rw [old (fun h9 => e1 (hch r e h9).1)]
      by_cases e2 : r = q
      · subst e2
        rw [hNq] at hx;cases hx;exact hW.nxt r nd e hr hnd hl h2 h3
      · rw [hNr r hr e1 e2] at hx
        exact hW.nxt r x e hr hx hl h2 h3
  · intro r x hr hl hx
    by_cases e1 : r = p
    · subst e1;omega
    · by_cases e2 : r = q
      · subst e2
        rw [hNq] at hx;cases hx;exact hW.val r nd hr hl hnd
      · rw [hNr r hr e1 e2] at hx
        exact hW.val r x hr hl hx
  · intro r hr
    refine hW.up r ?_;by_cases e : r = q
    · rw [if_pos e] at hr;omega
    · rw [if_neg e] at hr;exact hr
theorem WFD.less {D' : List Int → Prop} (hW : WFD ns D c v f) (h0 : D' []) (hD : ∀ p, D' p → D p) (hu : ∀ p, 0 < c p → D' p) : WFD ns D' c v f :=
  ⟨hW.root, h0, fun p hp => hW.lt p (hD p hp), fun p r hp hr => hW.inj p r (hD p hp) (hD r hr), fun p x hp => hW.cnt p x (hD p hp), fun p x d hp => hW.nxt p x d (hD p hp), fun p x hp => hW.val p x (hD p hp), hu⟩
theorem FreeOK.sets (hF : FreeOK ns F D f) (ns' : List Nd) (h : ns'.length = ns.length) : FreeOK ns' F D f :=
  ⟨hF.nodup, fun i hi => by rw [h];exact hF.lt i hi, hF.no, fun i hi => hF.all i (by rw [← h];exact hi)⟩
theorem FreeOK.rel (hF : FreeOK ns F D f) (hq : D q) (hlt : f q < ns.length) (hinj : ∀ r, D r → f r = f q → r = q) : FreeOK ns (F ++ [f q]) (fun r => D r ∧ r ≠ q) f := by
  refine ⟨?_, fun i hi => ?_, fun r hr hin => ?_, fun i hi => ?_⟩
  · rw [List.nodup_append]
    exact ⟨hF.nodup, by simp, fun a ha b hb e => by
      simp only [List.mem_singleton] at hb;subst hb;subst e;exact hF.no q hq ha⟩
  · rcases List.mem_append.1 hi with h | h
    · exact hF.lt i h
    · simp only [List.mem_singleton] at h;omega
  · rcases List.mem_append.1 hin with h | h
    · exact hF.no r hr.1 h
    · simp only [List.mem_singleton] at h
      exact hr.2 (hinj r hr.1 h)
  · rcases hF.all i hi with h | ⟨r, hr, e⟩
    · exact .inl (List.mem_append_left _ h)
    · by_cases e2 : r = q
      · left;rw [← e, e2];simp
      · exact .inr ⟨r, ⟨hr, e2⟩, e⟩
end
def cK (K : List (Ky × Int)) (p : List Int) : Nat := K.countP fun e => p.isPrefixOf (dl e.1)
def vK2 (K : List (Ky × Int)) (p : List Int) : Int := ((K.find? fun e => dl e.1 == p).map (·.2)).getD 0
theorem isPrefix_iff {p ds : List Int} : p.isPrefixOf ds = true ↔ p = ds.take p.length := by
  rw [List.isPrefixOf_iff_prefix];constructor
  · rintro ⟨t, rfl⟩;simp
  · intro h
    refine ⟨ds.drop p.length, ?_⟩;have h2 := List.take_append_drop p.length ds;rw [← h] at h2;exact h2
theorem cK_snoc (K : List (Ky × Int)) (k : Ky) (x : Int) (p : List Int) : cK (K ++ [(k, x)]) p = cK K p + if p.isPrefixOf (dl k) then 1 else 0 := by
  simp [cK, List.countP_append, List.countP_cons]
theorem cK_mono (K : List (Ky × Int)) (q : List Int) (e : Int) : cK K (q ++ [e]) ≤ cK K q := by
  refine List.countP_mono_left fun x _ h => ?_;rw [List.isPrefixOf_iff_prefix] at h ⊢;exact (List.prefix_append q [e]).trans h
theorem cK_nil (K : List (Ky × Int)) : cK K [] = K.length := by
  simp [cK]
theorem cK_le (K : List (Ky × Int)) (p : List Int) : cK K p ≤ K.length := List.countP_le_length
theorem cK_full {K : List (Ky × Int)} {k : Ky} (hk : WfK k) (hK : ∀ e ∈ K, WfK e.1) : 0 < cK K (dl k) ↔ ∃ e ∈ K, e.1 = k := by
  unfold cK;rw [List.countP_pos_iff];constructor
  · rintro ⟨e, he, h⟩
    rw [isPrefix_iff, dl_len] at h;have h2 : (dl e.1).take 26 = dl e.1 := List.take_of_length_le (by rw [dl_len];omega);rw [h2] at h;exact ⟨e, he, dl_inj (hK e he) hk h.symm⟩
  · rintro ⟨e, he, rfl⟩
    exact ⟨e, he, by rw [List.isPrefixOf_iff_prefix];exact List.prefix_refl _⟩
theorem dep_full {K : List (Ky × Int)} {ds : List Int} : ∀ {m : Nat}, 0 < m → (dep (cK K) ds m = m ↔ 0 < cK K (ds.take m))
  | 0, h => by omega
  | m + 1, _ => by
    constructor
    · exact dep_top
    · intro h
      by_cases hm : 0 < m
      · refine dep_yes ((dep_full hm).2 ?_) h
        rcases Nat.lt_or_ge m ds.length with hl | hl
        · have := cK_mono K (ds.take m) ds[m]
          rw [List.take_succ_eq_append_getElem hl] at h;omega
        · rw [List.take_of_length_le hl];rw [List.take_of_length_le omQ] at h;exact h
      · obtain rfl : m = 0 := omQ
        exact dep_yes rfl h
def bg (ds : List Int) (i : Nat) (r : List Int) : Prop := r.length ≤ i ∧ r = ds.take r.length
instance (ds : List Int) (i : Nat) (r : List Int) : Decidable (bg ds i r) := inferInstanceAs (Decidable (_ ∧ _))
theorem bg_succ {ds : List Int} {i : Nat} (hi : i < ds.length) (r : List Int) : bg ds (i + 1) r ↔ bg ds i r ∨ r = ds.take (i + 1) := by
  unfold bg;constructor
  · rintro ⟨h1, h2⟩
    rcases Nat.lt_or_ge r.length (i + 1) with h | h
    · exact .inl ⟨omQ, h2⟩
    · right
      have : r.length = i + 1 := omQ;rw [this] at h2;exact h2
  · rintro (⟨h1, h2⟩ | h)
    · exact ⟨omQ, h2⟩
    · have hl : r.length = i + 1 := by rw [h, List.length_take];omega
      exact ⟨omQ, by rw [hl];exact h⟩
theorem bg_not {ds : List Int} {i : Nat} (hi : i < ds.length) : ¬ bg ds i (ds.take (i + 1)) := by
  rintro ⟨h, _⟩;rw [List.length_take] at h;omega
theorem bg_zero {ds : List Int} (r : List Int) : bg ds 0 r ↔ r = [] := by
  unfold bg;constructor
  · rintro ⟨h, _⟩;exact List.eq_nil_of_length_eq_zero omQ
  · rintro rfl;simp
theorem bg_all {k : Ky} (r : List Int) : bg (dl k) 26 r ↔ r.isPrefixOf (dl k) = true := by
  rw [isPrefix_iff];unfold bg;constructor
  · exact fun h => h.2
  · intro h
    refine ⟨?_, h⟩;rw [h, List.length_take, dl_len];omega
def cP (c : List Int → Nat) (ds : List Int) (i : Nat) (r : List Int) : Nat := c r + if bg ds i r then 1 else 0
def cO (c : List Int → Nat) (ds : List Int) (i : Nat) (r : List Int) : Nat := c r - if bg ds i r then 1 else 0
theorem cP_zero (c : List Int → Nat) (ds : List Int) (r : List Int) : cP c ds 0 r = if r = [] then c r + 1 else c r := by
  unfold cP;by_cases h : r = []
  · rw [if_pos ((bg_zero r).2 h), if_pos h]
  · rw [if_neg (fun x => h ((bg_zero r).1 x)), if_neg h];rfl
theorem cO_zero (c : List Int → Nat) (ds : List Int) (r : List Int) : cO c ds 0 r = if r = [] then c r - 1 else c r := by
  unfold cO;by_cases h : r = []
  · rw [if_pos ((bg_zero r).2 h), if_pos h]
  · rw [if_neg (fun x => h ((bg_zero r).1 x)), if_neg h];rfl
theorem cP_succ (c : List Int → Nat) {ds : List Int} {i : Nat} (hi : i < ds.length) (r : List Int) : cP c ds (i + 1) r = if r = ds.take (i + 1) then cP c ds i r + 1 else cP c ds i r := by
  unfold cP;by_cases h : r = ds.take (i + 1)
  · subst h
    rw [if_pos ((bg_succ hi _).2 (.inr rfl)), if_pos rfl, if_neg (bg_not hi)]
  · rw [if_neg h]
    by_cases hb : bg ds i r
    · rw [if_pos hb, if_pos ((bg_succ hi _).2 (.inl hb))]
    · rw [if_neg hb, if_neg (fun x => ((bg_succ hi _).1 x).elim hb h)]
theorem cO_succ (c : List Int → Nat) {ds : List Int} {i : Nat} (hi : i < ds.length) (r : List Int) : cO c ds (i + 1) r = if r = ds.take (i + 1) then cO c ds i r - 1 else cO c ds i r := by
  unfold cO;by_cases h : r = ds.take (i + 1)
  · subst h
    rw [if_pos ((bg_succ hi _).2 (.inr rfl)), if_pos rfl, if_neg (bg_not hi)];rfl
  · rw [if_neg h]
    by_cases hb : bg ds i r
    · rw [if_pos hb, if_pos ((bg_succ hi _).2 (.inl hb))]
    · rw [if_neg hb, if_neg (fun x => ((bg_succ hi _).1 x).elim hb h)]
theorem cP_all (K : List (Ky × Int)) (k : Ky) (x : Int) (r : List Int) : cK (K ++ [(k, x)]) r = cP (cK K) (dl k) 26 r := by
  rw [cK_snoc, cP];by_cases h : bg (dl k) 26 r
  · rw [if_pos h, if_pos ((bg_all r).1 h)]
  · rw [if_neg h, if_neg (fun y => h ((bg_all r).2 y))]
structure TW (T : Tr) (K : List (Ky × Int)) (most : Int) : Prop where
  wf : ∃ f, WFD T.nodes (Pr (cK K)) (cK K) (vK2 K) f ∧ FreeOK T.nodes T.free (Pr (cK K)) f
  mo : T.most = most
  bd : (K.length : Int) ≤ most ∧ most ≤ 8192
  keys : ∀ e ∈ K, WfK e.1
  nodup : (K.map Prod.fst).Nodup
  nb : T.nodes.length ≤ 300001
def has (K : List (Ky × Int)) (k : Ky) : Prop := ∃ e ∈ K, e.1 = k
def findV (K : List (Ky × Int)) (k : Ky) : Option Int := (K.find? fun e => e.1 == k).map (·.2)
theorem has_iff {K : List (Ky × Int)} {k : Ky} (hk : WfK k) (hK : ∀ e ∈ K, WfK e.1) : dep (cK K) (dl k) 26 = 26 ↔ has K k := by
  rw [dep_full omQ, show (dl k).take 26 = dl k from List.take_of_length_le (by rw [dl_len];omega), cK_full hk hK];rfl
theorem vK2_eq {K : List (Ky × Int)} {k : Ky} (hk : WfK k) (hK : ∀ e ∈ K, WfK e.1) : vK2 K (dl k) = (findV K k).getD 0 := by
  unfold vK2 findV;have : (K.find? fun e => dl e.1 == dl k) = K.find? fun e => e.1 == k := by
    induction K with
    | nil => rfl
    | cons e K ih =>
      have ih := ih fun x hx => hK x (List.mem_cons_of_mem _ hx);by_cases h : e.1 = k
      · simp [h]
      · have h2 : dl e.1 ≠ dl k := fun h3 => h (dl_inj (hK e List.mem_cons_self) hk h3)
        rw [List.find?_cons, List.find?_cons];simp only [beq_eq_false_iff_ne.2 h, beq_eq_false_iff_ne.2 h2];exact ih
  rw [this]
theorem findV_some {K : List (Ky × Int)} {k : Ky} : (findV K k).isSome = true ↔ has K k := by
  unfold findV has;rw [Option.isSome_map, List.find?_isSome];simp
structure PutI (K : List (Ky × Int)) (k : Ky) (most : Int) (i a : Nat) (T : Tr) (f : List Int → Nat) : Prop where
  wf : WFD T.nodes (Pr (cP (cK K) (dl k) i)) (cP (cK K) (dl k) i) (fun p => if p = dl k then 0 else vK2 K p) f
  fr : FreeOK T.nodes T.free (Pr (cP (cK K) (dl k) i)) f
  at' : a = f ((dl k).take i)
  mo : T.most = most
theorem WFD.vals {ns : List Nd} {D : List Int → Prop} {c : List Int → Nat} {v v' : List Int → Int} {f : List Int → Nat} (h : WFD ns D c v f) (hv : ∀ p, D p → p.length = 26 → v' p = v p) : WFD ns D c v' f :=
  ⟨h.root, h.droot, h.lt, h.inj, h.cnt, h.nxt, fun p x hp hl hx => by rw [hv p hp hl];exact h.val p x hp hl hx, h.up⟩
theorem PutI.start {T : Tr} {K : List (Ky × Int)} {most : Int} {k : Ky} (h : TW T K most) (hk : WfK k) (hn : ¬ has K k) {nd : Nd} (hnd : T.nodes[0]? = some nd) :
    ∃ f, PutI K k most 0 0 { T with nodes := T.nodes.set 0 (nd.1 + 1, nd.2.1, nd.2.2) } f := by
  obtain ⟨f, hW, hF⟩ := h.wf;have hr := hW.root;have hW2 := hW.vals (v' := fun p => if p = dl k then 0 else vK2 K p) fun p hp hl => by
    have : p ≠ dl k := by
      rintro rfl;rcases hp with e | e
      · rw [e] at hl;simp at hl
      · exact hn ((cK_full hk h.keys).1 e)
    rw [if_neg this]
  have hnd2 : T.nodes[f []]? = some nd := by rw [hr];exact hnd
  obtain ⟨h1, h2⟩ := hW2.inc hF (.inl rfl) nd hnd2;have hc : cP (cK K) (dl k) 0 = fun r => if r = [] then cK K r + 1 else cK K r := funext (cP_zero _ _)
  refine ⟨f, ?_, ?_, ?_, h.mo⟩
  · rw [hc];rw [hr] at h1;exact h1
  · rw [hc];rw [hr] at h2;exact h2
  · rw [List.take_zero, hr]
theorem PutI.next {T : Tr} {K : List (Ky × Int)} {most : Int} {k : Ky} {i a : Nat} {f : List Int → Nat} (h : PutI K k most i a T f) (hi : i < 26) : ∃ hlt : a < T.nodes.length,
    (T.nodes[a]).2.1 (dig k i).toNat = (if 0 < cK K ((dl k).take (i + 1)) then (f ((dl k).take (i + 1)) : Int) else 0) ∧
    (0 < cK K ((dl k).take (i + 1)) → 0 < f ((dl k).take (i + 1)) ∧ f ((dl k).take (i + 1)) < T.nodes.length) := by
  have hds : i < (dl k).length := by rw [dl_len];exact hi
  have hD : Pr (cP (cK K) (dl k) i) ((dl k).take i) := by
    cases i with
    | zero => exact .inl rfl
    | succ i => right;unfold cP;rw [if_pos (show bg (dl k) (i + 1) _ from ⟨by rw [List.length_take];omega, by rw [List.length_take, dl_len, Nat.min_eq_left omQ]⟩)];omega
  have hlt := h.wf.lt _ hD;rw [← h.at'] at hlt;have hb := dig_bd k i;have hcq : cP (cK K) (dl k) i ((dl k).take (i + 1)) = cK K ((dl k).take (i + 1)) := by unfold cP;rw [if_neg (bg_not hds)];rfl
  refine ⟨hlt, ?_, fun hc => ?_⟩
  · have := h.wf.nxt _ (T.nodes[a]) (dig k i) hD (by rw [← h.at'];exact List.getElem?_eq_getElem hlt) (by rw [List.length_take, dl_len];omega) hb.1 hb.2
    rw [this, ← dl_take hi, hcq]
  · have hDq : Pr (cP (cK K) (dl k) i) ((dl k).take (i + 1)) := .inr (by rw [hcq];exact hc)
    refine ⟨?_, h.wf.lt _ hDq⟩;rcases Nat.eq_zero_or_pos (f ((dl k).take (i + 1))) with e | e
    · have h2 := h.wf.inj _ [] hDq h.wf.droot (by rw [e, h.wf.root])
      have h3 := congrArg List.length h2;rw [List.length_take, dl_len] at h3;simp at h3
    · exact e
theorem PutI.old {T : Tr} {K : List (Ky × Int)} {most : Int} {k : Ky} {i a : Nat} {f : List Int → Nat} (h : PutI K k most i a T f) (hi : i < 26) (hc : 0 < cK K ((dl k).take (i + 1))) {nd : Nd} (hnd : T.nodes[f ((dl k).take (i + 1))]? = some nd) :
    PutI K k most (i + 1) (f ((dl k).take (i + 1))) { T with nodes := T.nodes.set (f ((dl k).take (i + 1))) (nd.1 + 1, nd.2.1, nd.2.2) } f := by
  have hds : i < (dl k).length := by rw [dl_len];exact hi
  have hcq : cP (cK K) (dl k) i ((dl k).take (i + 1)) = cK K ((dl k).take (i + 1)) := by unfold cP;rw [if_neg (bg_not hds)];rfl
  obtain ⟨h1, h2⟩ := h.wf.inc h.fr (q := (dl k).take (i + 1)) (.inr (by rw [hcq];exact hc)) nd hnd;have hcs : cP (cK K) (dl k) (i + 1) = fun r => if r = (dl k).take (i + 1) then cP (cK K) (dl k) i r + 1 else cP (cK K) (dl k) i r := funext (cP_succ _ hds)
  exact ⟨by rw [hcs];exact h1, by rw [hcs];exact h2, rfl, h.mo⟩
def freshI (T : Tr) : Nat := T.free.getLast?.getD T.nodes.length
def freshT (T : Tr) : Tr := if T.free = [] then { T with nodes := T.nodes ++ [z0] } else { T with nodes := T.nodes.set (freshI T) z0, free := T.free.dropLast }
theorem PutI.new {T : Tr} {K : List (Ky × Int)} {most : Int} {k : Ky} {i a : Nat} {f : List Int → Nat} (h : PutI K k most i a T f) (hi : i < 26) (hc : ¬ 0 < cK K ((dl k).take (i + 1))) :
    ∃ (hlt : a < (freshT T).nodes.length) (hne : a ≠ freshI T) (hlf : freshI T < (freshT T).nodes.length) (f' : List Int → Nat), (freshT T).nodes[freshI T] = z0 ∧
    PutI K k most (i + 1) (freshI T) { freshT T with nodes := ((freshT T).nodes.set a (((freshT T).nodes[a]).1, updN ((freshT T).nodes[a]).2.1 (dig k i).toNat (freshI T), ((freshT T).nodes[a]).2.2)).set (freshI T) (1, z0.2.1, z0.2.2) } f' := by
  have hds : i < (dl k).length := by rw [dl_len];exact hi
  have hcq : cP (cK K) (dl k) i ((dl k).take (i + 1)) = 0 := by unfold cP;rw [if_neg (bg_not hds)];omega
  have hD : Pr (cP (cK K) (dl k) i) ((dl k).take i) := by
    cases i with
    | zero => exact .inl rfl
    | succ i => right;unfold cP;rw [if_pos (show bg (dl k) (i + 1) _ from ⟨by rw [List.length_take];omega, by rw [List.length_take, dl_len, Nat.min_eq_left omQ]⟩)];omega
  have hlt0 := h.wf.lt _ hD;rw [← h.at'] at hlt0;have hcs : cP (cK K) (dl k) (i + 1) = fun r => if r = (dl k).take (i + 1) then cP (cK K) (dl k) i r + 1 else cP (cK K) (dl k) i r := funext (cP_succ _ hds)
  have hch : ∀ e, cP (cK K) (dl k) i ((dl k).take (i + 1) ++ [e]) = 0 := by
    intro e;have := cK_mono K ((dl k).take (i + 1)) e;unfold cP;rw [if_neg (fun x => by have := x.1;rw [List.length_append, List.length_take, dl_len] at this;simp at this;omega)];omega
  have hv : ((dl k).take (i + 1)).length = 26 → (fun p => if p = dl k then 0 else vK2 K p) ((dl k).take (i + 1)) = 0 := by
    intro hl;rw [List.length_take, dl_len] at hl;have : (dl k).take (i + 1) = dl k := List.take_of_length_le (by rw [dl_len];omega);dsimp only;rw [this, if_pos rfl]
  have fin : ∀ (T1 : Tr) (i0 : Nat), T1 = freshT T → i0 = freshI T → (T.nodes.length ≤ T1.nodes.length ∧ i0 < T1.nodes.length ∧ (∀ r, Pr (cP (cK K) (dl k) i) r → f r ≠ i0) ∧ (∀ j, j ≠ i0 → j < T.nodes.length → T1.nodes[j]? = T.nodes[j]?) ∧ T1.nodes[i0]? = some z0 ∧ T1.free.Nodup ∧ (∀ j, j ∈ T1.free ↔ j ∈ T.free ∧ j ≠ i0) ∧ (∀ j, j < T1.nodes.length → j = i0 ∨ j < T.nodes.length) ∧ T1.most = T.most) →
      ∃ (hlt : a < T1.nodes.length) (hne : a ≠ i0) (hlf : i0 < T1.nodes.length) (f' : List Int → Nat), T1.nodes[i0] = z0 ∧ PutI K k most (i + 1) i0 { T1 with nodes := (T1.nodes.set a ((T1.nodes[a]).1, updN (T1.nodes[a]).2.1 (dig k i).toNat i0, (T1.nodes[a]).2.2)).set i0 (1, z0.2.1, z0.2.2) } f' := by
    rintro T1 i0 - - ⟨h1, h2, h3, h4, h5, h6, h7, h8, h9⟩;have hlt : a < T1.nodes.length := omQ;have hne : a ≠ i0 := by rw [h.at'];exact h3 _ hD
    obtain ⟨g1, g2⟩ := h.wf.grow h.fr hD (by rw [List.length_take, dl_len];omega) (dig_bd k i) (dl_take hi) hcq hch hv h1 h2 h3 h4 h5 h6 h7 h8 (T1.nodes[a]) (by rw [← h.at'];exact List.getElem?_eq_getElem hlt);rw [← h.at'] at g1 g2;refine ⟨hlt, hne, h2, (fun r => if r = (dl k).take (i + 1) then i0 else f r), by rw [List.getElem?_eq_getElem h2] at h5;exact Option.some.inj h5, ?_, ?_, ?_, by rw [h9];exact h.mo⟩
    · rw [hcs];exact g1
    · rw [hcs];exact g2
    · rw [if_pos rfl]
  refine fin _ _ rfl rfl ?_;by_cases hf : T.free = []
  · have e1 : freshI T = T.nodes.length := by simp [freshI, hf]
    have e2 : freshT T = { T with nodes := T.nodes ++ [z0] } := by rw [freshT, if_pos hf]
    rw [e1, e2];refine ⟨by simp, by simp, fun r hr => ?_, fun j hj hjl => ?_, ?_, ?_, fun j => ?_, fun j hj => ?_, rfl⟩
    · have := h.wf.lt r hr;omega
    · exact List.getElem?_append_left hjl
    · simp
    · exact h.fr.nodup
    · rw [hf];simp
    · simp at hj;omega
  · have hne : T.free ≠ [] := hf
    have e0 : T.free.getLast? = some (T.free.getLast hne) := List.getLast?_eq_some_getLast hne;have e1 : freshI T = T.free.getLast hne := by simp [freshI, e0]
    have e2 : freshT T = { T with nodes := T.nodes.set (freshI T) z0, free := T.free.dropLast } := by rw [freshT, if_neg hf]
    have hin : freshI T ∈ T.free := by rw [e1];exact List.getLast_mem hne
    have hil := h.fr.lt _ hin;have hsp : T.free = T.free.dropLast ++ [freshI T] := by rw [e1];exact (List.dropLast_concat_getLast hne).symm
    have hnd := h.fr.nodup;rw [hsp, List.nodup_append] at hnd;rw [e2];refine ⟨by simp, by simpa using hil, fun r hr e => ?_, fun j hj hjl => ?_, ?_, hnd.1, fun j => ?_, fun j hj => ?_, rfl⟩
    · exact h.fr.no r hr (by rw [e];exact hin)
    · exact List.getElem?_set_ne (fun e => hj e.symm)
    · exact List.getElem?_set_self hil
    · constructor
      · intro hj
        exact ⟨by rw [hsp];exact List.mem_append_left _ hj, fun e => hnd.2.2 _ hj _ List.mem_cons_self e⟩
      · rintro ⟨hj, hj2⟩
        rw [hsp] at hj;rcases List.mem_append.1 hj with h9 | h9
        · exact h9
        · exact absurd (by simpa using h9) hj2
    · right;simpa using hj
def trieA (TA TN TI b : Nat) (K : List (Ky × Int)) (most : Int) : HP := box (fun x : Tr × TrX => TW x.1 K most) (fun x => trieL TA TN TI b x.1 x.2)
theorem Sep.trieAE {TA TN TI b : Nat} {K : List (Ky × Int)} {most : Int} {l : List HP} {w : World} (h : Sep (trieA TA TN TI b K most :: l) w) :
    ∃ T r1 c1 r2 c2, TW T K most ∧ Sep (blk b [.slice r1 T.nodes.length c1, .slice r2 T.frees.length c2, .int .i64 T.most] TA :: sls r1 T.nodes.length c1 TN 18 (T.nodes.flatMap eN) :: sls r2 T.frees.length c2 TI 1 (T.frees.flatMap e1) :: l) w :=
  let ⟨x, h1, h2⟩ := h.boxE
  ⟨x.1, x.2.1.1, x.2.1.2, x.2.2.1, x.2.2.2, h1, h2⟩
theorem Sep.trieAI {TA TN TI b n1 n2 : Nat} {K : List (Ky × Int)} {most : Int} {T : Tr} {r1 r2 : Option Addr} {c1 c2 : Nat} {l : List HP} {w : World} (hT : TW T K most) (h1 : n1 = T.nodes.length) (h2 : n2 = T.frees.length)
    (h : Sep (blk b [.slice r1 n1 c1, .slice r2 n2 c2, .int .i64 T.most] TA :: sls r1 n1 c1 TN 18 (T.nodes.flatMap eN) :: sls r2 n2 c2 TI 1 (T.frees.flatMap e1) :: l) w) : Sep (trieA TA TN TI b K most :: l) w := by
  subst h1 h2;exact Sep.boxI (T, (r1, c1), (r2, c2)) hT h
theorem Sep.slsTake {α : Type} {enc : α → List Value} {xs : List α} {r : Option Addr} {n c sz k : Nat} {T : TypeId} {l : List HP} {w : World} (h : Sep (sls r n c T sz (xs.flatMap enc) :: l) w) (hm : ∀ x, (enc x).length = sz) (hn : n = xs.length) (hk : k ≤ n) : Sep (sls r k c T sz ((xs.take k).flatMap enc) :: l) w := by
  subst hn;rcases h.slsE with ⟨h1, h2, h3, h4, h5⟩ | ⟨b, rest, h1, h2, h3, h4, h5⟩
  · subst h1 h3
    obtain rfl : k = 0 := omQ;simpa using h5.slsNil
  · subst h1
    have e : xs.flatMap enc = (xs.take k).flatMap enc ++ (xs.drop k).flatMap enc := by rw [← List.flatMap_append, List.take_append_drop]
    have hl := flat_len hm (xs.take k);rw [List.length_take, Nat.min_eq_left hk] at hl;have hl2 := congrArg List.length e;rw [List.length_append] at hl2;refine Sep.slsI (rest := (xs.drop k).flatMap enc ++ rest) ?_ hl ?_ omQ
    · rw [← List.append_assoc, ← e];exact h5
    · rw [List.length_append];omega
theorem TW.pos {T : Tr} {K : List (Ky × Int)} {most : Int} (h : TW T K most) : 0 < T.nodes.length := by
  obtain ⟨f, hW, _⟩ := h.wf;have := hW.lt [] hW.droot;omega
theorem TW.new {most : Int} (h1 : 1 ≤ most) (h2 : most ≤ 8192) : TW { nodes := [z0], free := [], most := most } [] most := by
  have hP : ∀ p, Pr (cK []) p → p = [] := by
    intro p hp;rcases hp with h | h
    · exact h
    · simp [cK] at h
  refine ⟨⟨fun _ => 0, ⟨rfl, .inl rfl, fun p _ => by simp, fun p q hp hq _ => by rw [hP p hp, hP q hq], ?_, ?_, ?_, fun p hp => .inr hp⟩, ⟨by simp, by simp, by simp, ?_⟩⟩, rfl, ⟨by simp;omega, h2⟩, by simp, by simp, by simp⟩
  · intro p x hp hx
    simp only [List.getElem?_cons_zero, Option.some.injEq] at hx;subst hx;rw [hP p hp];rfl
  · intro p x d hp hx hl h0 h1
    simp only [List.getElem?_cons_zero, Option.some.injEq] at hx;subst hx;rw [if_neg (by simp [cK])];rfl
  · intro p x hp hl hx
    rw [hP p hp] at hl;simp at hl
  · intro i hi
    simp at hi;exact .inr ⟨[], .inl rfl, hi.symm⟩
def pres (ks : List Ky) : List (List Int) := [] :: ks.flatMap fun k => (List.range 26).map fun i => (dl k).take (i + 1)
theorem pres_len (ks : List Ky) : (pres ks).length = 26 * ks.length + 1 := by
  unfold pres;rw [List.length_cons];congr 1
  induction ks with
  | nil => rfl
  | cons k ks ih => rw [List.flatMap_cons, List.length_append, ih];simp;omega
theorem pres_mem {ks : List Ky} {p : List Int} (h : p = [] ∨ ∃ k ∈ ks, p.isPrefixOf (dl k) = true) : p ∈ pres ks := by
  unfold pres;rcases h with h | ⟨k, hk, hp⟩
  · rw [h];exact List.mem_cons_self
  · by_cases e : p = []
    · rw [e];exact List.mem_cons_self
    · refine List.mem_cons_of_mem _ (List.mem_flatMap.2 ⟨k, hk, List.mem_map.2 ?_⟩)
      rw [isPrefix_iff] at hp;have hl : p.length ≤ 26 := by rw [hp, List.length_take, dl_len];omega
      have h0 : 0 < p.length := List.length_pos_iff.2 e;exact ⟨p.length - 1, by rw [List.mem_range];omega, by rw [show p.length - 1 + 1 = p.length from by omega];exact hp.symm⟩
theorem nodup_le2 {α : Type} [DecidableEq α] : ∀ {l1 l2 : List α}, l1.Nodup → (∀ x ∈ l1, x ∈ l2) → l1.length ≤ l2.length
  | [], _, _, _ => by simp
  | x :: l1, l2, h, hs => by
    rw [List.nodup_cons] at h;have hx : x ∈ l2 := hs x List.mem_cons_self;have h1 := nodup_le2 (l1 := l1) (l2 := l2.erase x) h.2 fun y hy => by
      have hne : y ≠ x := fun e => h.1 (e ▸ hy);exact (List.mem_erase_of_ne hne).2 (hs y (List.mem_cons_of_mem _ hy))
    have h2 := List.length_erase_of_mem hx;have h3 : 0 < l2.length := List.length_pos_of_mem hx;simp only [List.length_cons];omega
theorem nodes_bd {ns : List Nd} {D : List Int → Prop} {f : List Int → Nat} {ks : List Ky} (h : FreeOK ns [] D f) (hD : ∀ p, D p → p = [] ∨ ∃ k ∈ ks, p.isPrefixOf (dl k) = true) : ns.length ≤ 26 * ks.length + 1 := by
  have h1 : (List.range ns.length).length ≤ ((pres ks).map f).length := nodup_le2 List.nodup_range fun i hi => by
    rw [List.mem_range] at hi;rcases h.all i hi with h9 | ⟨p, hp, e⟩
    · simp at h9
    · exact List.mem_map.2 ⟨p, pres_mem (hD p hp), e⟩
  rw [List.length_range, List.length_map, pres_len] at h1;exact h1
theorem PutI.bd {T : Tr} {K : List (Ky × Int)} {most : Int} {k : Ky} {i a : Nat} {f : List Int → Nat} (h : PutI K k most i a T f) (hK : (K.length : Int) ≤ 8192) (hf : T.free = []) : T.nodes.length ≤ 300000 := by
  have h2 := h.fr;rw [hf] at h2;have := nodes_bd (ks := k :: K.map (·.1)) h2 fun p hp => by
    rcases hp with e | e
    · exact .inl e
    · right
      unfold cP at e;by_cases hb : bg (dl k) i p
      · exact ⟨k, List.mem_cons_self, isPrefix_iff.2 hb.2⟩
      · rw [if_neg hb] at e
        obtain ⟨x, hx, hp⟩ := List.countP_pos_iff.1 (show 0 < cK K p by omega);exact ⟨x.1, List.mem_cons_of_mem _ (List.mem_map_of_mem hx), hp⟩
  simp at this;omega
theorem PutI.done {T : Tr} {K : List (Ky × Int)} {most : Int} {k : Ky} {a : Nat} {f : List Int → Nat} (h : PutI K k most 26 a T f) (hT : ∀ e ∈ K, WfK e.1) (hnd : (K.map Prod.fst).Nodup) (hk : WfK k) (hn : ¬ has K k) (hb : (K.length : Int) < most) (hm : most ≤ 8192) (hnb : T.nodes.length ≤ 300001) (x : Int) {nd : Nd} (hg : T.nodes[a]? = some nd) :
    TW { T with nodes := T.nodes.set a (nd.1, nd.2.1, x) } (K ++ [(k, x)]) most := by
  have hds : (dl k).take 26 = dl k := List.take_of_length_le (by rw [dl_len];omega);have ha := h.at';rw [hds] at ha;have hlt := (List.getElem?_eq_some_iff.1 hg).1;have hDk : Pr (cP (cK K) (dl k) 26) (dl k) := by
    right;unfold cP;rw [if_pos (show bg (dl k) 26 (dl k) from ⟨by rw [dl_len];omega, by rw [dl_len];exact hds.symm⟩)];omega
  have hget : ∀ p, Pr (cP (cK K) (dl k) 26) p → ∀ y, (T.nodes.set a (nd.1, nd.2.1, x))[f p]? = some y → (p = dl k ∧ y = (nd.1, nd.2.1, x)) ∨ (p ≠ dl k ∧ T.nodes[f p]? = some y) := by
    intro p hp y hy;by_cases e : p = dl k
    · subst e
      rw [ha, List.getElem?_set_self (by rw [← ha];exact hlt)] at hy;exact .inl ⟨rfl, (Option.some.inj hy).symm⟩
    · rw [ha, List.getElem?_set_ne (fun e2 => e (h.wf.inj _ _ hp hDk e2.symm))] at hy
      exact .inr ⟨e, hy⟩
  have hgk : T.nodes[f (dl k)]? = some nd := by rw [← ha];exact hg
  have hkeys : ∀ e ∈ K ++ [(k, x)], WfK e.1 := by
    intro e he;rcases List.mem_append.1 he with h9 | h9
    · exact hT e h9
    · simp only [List.mem_singleton] at h9;subst h9;exact hk
  have hc : cK (K ++ [(k, x)]) = cP (cK K) (dl k) 26 := funext (cP_all K k x);refine ⟨⟨f, ?_, ?_⟩, h.mo, ⟨by simp;omega, hm⟩, hkeys, ?_, by simpa using hnb⟩
  · rw [hc]
    refine ⟨h.wf.root, h.wf.droot, fun p hp => by rw [List.length_set];exact h.wf.lt p hp, h.wf.inj, ?_, ?_, ?_, h.wf.up⟩
    · intro p y hp hy
      rcases hget p hp y hy with ⟨rfl, rfl⟩ | ⟨_, hy⟩
      · exact h.wf.cnt _ nd hp hgk
      · exact h.wf.cnt p y hp hy
    · intro p y d hp hy
      rcases hget p hp y hy with ⟨rfl, rfl⟩ | ⟨_, hy⟩
      · exact h.wf.nxt _ nd d hp hgk
      · exact h.wf.nxt p y d hp hy
    · intro p y hp hl hy
      rcases hget p hp y hy with ⟨rfl, rfl⟩ | ⟨hne, hy⟩
      · rw [vK2_eq hk hkeys]
        unfold findV;rw [List.find?_append];have : K.find? (fun e => e.1 == k) = none := by
          rw [List.find?_eq_none];intro e he hb2;exact hn ⟨e, he, by simpa using hb2⟩
        rw [this];simp
      · have := h.wf.val p y hp hl hy
        rw [if_neg hne] at this;rw [this];unfold vK2;rw [List.find?_append];have h5 : ([(k, x)] : List (Ky × Int)).find? (fun e => dl e.1 == p) = none := by
          rw [List.find?_eq_none];intro e he hb2;simp only [List.mem_singleton] at he;subst he;exact hne (by simpa using (beq_iff_eq.1 hb2).symm)
        rw [h5];simp
  · rw [hc];exact h.fr.sets _ (by simp)
  · rw [List.map_append, List.nodup_append]
    refine ⟨hnd, by simp, fun p hp q hq => ?_⟩;simp only [List.map_cons, List.map_nil, List.mem_singleton] at hq;subst hq;rintro rfl;obtain ⟨e, he, e2⟩ := List.mem_map.1 hp;exact hn ⟨e, he, e2⟩
structure PutM (K : List (Ky × Int)) (k : Ky) (most : Int) (i nx : Nat) (N : List Nd) (F : List Nat) (mo : Int) : Prop where
  lt : nx < N.length
  cnt : 0 ≤ (N[nx]'lt).1 ∧ (N[nx]'lt).1 ≤ 8192
  fin : ∃ f, PutI K k most (i + 1) nx { nodes := N.set nx ((N[nx]'lt).1 + 1, (N[nx]'lt).2.1, (N[nx]'lt).2.2), free := F, most := mo } f
theorem PutI.mOld {T : Tr} {K : List (Ky × Int)} {most : Int} {k : Ky} {i a : Nat} {f : List Int → Nat} (h : PutI K k most i a T f) (hi : i < 26) (hK : (K.length : Int) ≤ 8192) (hc : 0 < cK K ((dl k).take (i + 1))) : PutM K k most i (f ((dl k).take (i + 1))) T.nodes T.free T.most := by
  have hds : i < (dl k).length := by rw [dl_len];exact hi
  obtain ⟨_, _, h3⟩ := h.next hi;have hlt := (h3 hc).2;have hcq : cP (cK K) (dl k) i ((dl k).take (i + 1)) = cK K ((dl k).take (i + 1)) := by unfold cP;rw [if_neg (bg_not hds)];rfl
  have hv := h.wf.cnt _ _ (.inr (by rw [hcq];exact hc)) (List.getElem?_eq_getElem hlt);rw [hcq] at hv;have := cK_le K ((dl k).take (i + 1));exact ⟨hlt, omQ, f, h.old hi hc (List.getElem?_eq_getElem hlt)⟩
theorem PutI.mNew {T : Tr} {K : List (Ky × Int)} {most : Int} {k : Ky} {i a : Nat} {f : List Int → Nat} (h : PutI K k most i a T f) (hi : i < 26) (hc : ¬ 0 < cK K ((dl k).take (i + 1))) : ∃ (hlt : a < (freshT T).nodes.length),
    PutM K k most i (freshI T) ((freshT T).nodes.set a (((freshT T).nodes[a]).1, updN ((freshT T).nodes[a]).2.1 (dig k i).toNat (freshI T), ((freshT T).nodes[a]).2.2)) (freshT T).free (freshT T).most := by
  obtain ⟨hlt, hne, hlf, f', hz, hP⟩ := h.new hi hc;have hz2 : ((freshT T).nodes.set a (((freshT T).nodes[a]).1, updN ((freshT T).nodes[a]).2.1 (dig k i).toNat (freshI T), ((freshT T).nodes[a]).2.2))[freshI T]'(by simpa using hlf) = z0 := by
    rw [List.getElem_set_ne hne];exact hz
  refine ⟨hlt, by simpa using hlf, by rw [hz2];decide, f', ?_⟩;rw [hz2];exact hP
theorem freshT_len {T : Tr} (h : T.nodes.length ≤ 300001) (hf : T.free = [] → T.nodes.length ≤ 300000) : (freshT T).nodes.length ≤ 300001 := by
  unfold freshT
  split
  · rename_i e;have := hf e;simp;omega
  · simpa using h
def putE (K : List (Ky × Int)) (k : Ky) (most : Int) : Int := if (findV K k).isSome = true then 150 else if (K.length : Int) = most then 4 else 0
def putK (K : List (Ky × Int)) (k : Ky) (x most : Int) : List (Ky × Int) := if (findV K k).isSome = true then K else if (K.length : Int) = most then K else K ++ [(k, x)]
def outK (K : List (Ky × Int)) (k : Ky) : List (Ky × Int) := K.filter fun e => !(e.1 == k)
theorem outK_no {K : List (Ky × Int)} {k : Ky} (h : ¬ has K k) : outK K k = K := by
  unfold outK;rw [List.filter_eq_self];intro e he;simp only [Bool.not_eq_true', beq_eq_false_iff_ne, ne_eq];exact fun e2 => h ⟨e, he, e2⟩
theorem outK_has {K : List (Ky × Int)} {k : Ky} : ¬ has (outK K k) k := by
  rintro ⟨e, he, h⟩;simp [outK, h] at he
theorem outK_count : ∀ {K : List (Ky × Int)} {k : Ky}, (K.map Prod.fst).Nodup → has K k → ∀ r, cK K r = cK (outK K k) r + if r.isPrefixOf (dl k) then 1 else 0
  | [], k, _, ⟨e, he, _⟩, _ => by simp at he
  | x :: K, k, hn, hh, r => by
    rw [List.map_cons, List.nodup_cons] at hn;by_cases hx : x.1 = k
    · have hno : ¬ has K k := by
        rintro ⟨e, he, h⟩;exact hn.1 (by rw [hx, ← h];exact List.mem_map_of_mem he)
      have e1 : outK (x :: K) k = K := by
        have := outK_no hno;unfold outK at this ⊢;rw [List.filter_cons, if_neg (by simp [hx]), this]
      rw [e1];unfold cK;rw [List.countP_cons, hx]
    · have hh2 : has K k := by
        obtain ⟨e, he, h⟩ := hh;rcases List.mem_cons.1 he with h9 | h9
        · subst h9;exact absurd h hx
        · exact ⟨e, h9, h⟩
      have ih := outK_count hn.2 hh2 r;have e1 : outK (x :: K) k = x :: outK K k := by
        unfold outK;rw [List.filter_cons, if_pos (by simp [hx])]
      rw [e1];unfold cK at ih ⊢;rw [List.countP_cons, List.countP_cons, ih];omega
theorem outK_cO {K : List (Ky × Int)} {k : Ky} (hn : (K.map Prod.fst).Nodup) (hh : has K k) (r : List Int) : cK (outK K k) r = cO (cK K) (dl k) 26 r := by
  have := outK_count hn hh r;unfold cO;by_cases h : bg (dl k) 26 r
  · rw [if_pos h];rw [if_pos ((bg_all r).1 h)] at this;omega
  · rw [if_neg h];rw [if_neg (fun y => h ((bg_all r).2 y))] at this;omega
theorem outK_len {K : List (Ky × Int)} {k : Ky} (hn : (K.map Prod.fst).Nodup) (hh : has K k) : (outK K k).length + 1 = K.length := by
  have := outK_count hn hh [];rw [cK_nil, cK_nil] at this;simpa using this.symm
structure OutI (K : List (Ky × Int)) (k : Ky) (most : Int) (i a : Nat) (T : Tr) (f : List Int → Nat) : Prop where
  wf : WFD T.nodes (Pr (cK K)) (cO (cK K) (dl k) i) (vK2 K) f
  fr : FreeOK T.nodes T.free (fun r => Pr (cK K) r ∧ ¬ (bg (dl k) i r ∧ r ≠ [] ∧ cK K r = 1)) f
  at' : a = f ((dl k).take i)
  mo : T.most = most
theorem OutI.start {T : Tr} {K : List (Ky × Int)} {most : Int} {k : Ky} (h : TW T K most) (hh : has K k) {nd : Nd} (hnd : T.nodes[0]? = some nd) :
    ∃ f, OutI K k most 0 0 { T with nodes := T.nodes.set 0 (nd.1 - 1, nd.2.1, nd.2.2) } f := by
  obtain ⟨f, hW, hF⟩ := h.wf;have hr := hW.root;have hnd2 : T.nodes[f []]? = some nd := by rw [hr];exact hnd
  have h1 : 1 ≤ cK K [] := by
    rw [cK_nil];obtain ⟨e, he, _⟩ := hh;exact List.length_pos_of_mem he
  have hd := hW.dec (.inl rfl) (.inl rfl) h1 nd hnd2;have hc : cO (cK K) (dl k) 0 = fun r => if r = [] then cK K r - 1 else cK K r := funext (cO_zero _ _)
  refine ⟨f, ?_, ?_, by rw [List.take_zero, hr], h.mo⟩
  · rw [hc];rw [hr] at hd;exact hd
  · refine (hF.sets _ (by simp)).ext fun r => ?_
    constructor
    · exact fun x => x.1
    · exact fun x => ⟨x, fun y => y.2.1 ((bg_zero r).1 y.1)⟩
theorem OutI.pos {T : Tr} {K : List (Ky × Int)} {most : Int} {k : Ky} {i a : Nat} {f : List Int → Nat} (h : OutI K k most i a T f) (hh : dep (cK K) (dl k) 26 = 26) {j : Nat} (hj : j < 26) : 0 < cK K ((dl k).take (j + 1)) := dep_top (dep_pre hh omQ)
theorem OutI.next {T : Tr} {K : List (Ky × Int)} {most : Int} {k : Ky} {i a : Nat} {f : List Int → Nat} (h : OutI K k most i a T f) (hh : dep (cK K) (dl k) 26 = 26) (hi : i < 26) : ∃ (hlt : a < T.nodes.length) (hnl : f ((dl k).take (i + 1)) < T.nodes.length),
    (T.nodes[a]).2.1 (dig k i).toNat = (f ((dl k).take (i + 1)) : Int) ∧ (T.nodes[f ((dl k).take (i + 1))]).1 = cK K ((dl k).take (i + 1)) ∧ 0 < cK K ((dl k).take (i + 1)) ∧ a ≠ f ((dl k).take (i + 1)) := by
  have hds : i < (dl k).length := by rw [dl_len];exact hi
  have hc := h.pos hh hi;have hD : Pr (cK K) ((dl k).take i) := by
    cases i with
    | zero => exact .inl rfl
    | succ i => exact .inr (h.pos hh omQ)
  have hDq : Pr (cK K) ((dl k).take (i + 1)) := .inr hc;have hlt := h.wf.lt _ hD;rw [← h.at'] at hlt;have hnl := h.wf.lt _ hDq;have hb := dig_bd k i;have hcq : cO (cK K) (dl k) i ((dl k).take (i + 1)) = cK K ((dl k).take (i + 1)) := by unfold cO;rw [if_neg (bg_not hds)];rfl
  refine ⟨hlt, hnl, ?_, ?_, hc, fun e => ?_⟩
  · have := h.wf.nxt _ (T.nodes[a]) (dig k i) hD (by rw [← h.at'];exact List.getElem?_eq_getElem hlt) (by rw [List.length_take, dl_len];omega) hb.1 hb.2
    rw [this, ← dl_take hi, hcq, if_pos hc]
  · have := h.wf.cnt _ _ hDq (List.getElem?_eq_getElem hnl)
    rw [hcq] at this;exact this
  · rw [h.at'] at e
    have h2 := congrArg List.length (h.wf.inj _ _ hD hDq e);rw [List.length_take, List.length_take, dl_len] at h2;omega
theorem OutI.more {T : Tr} {K : List (Ky × Int)} {most : Int} {k : Ky} {i a : Nat} {f : List Int → Nat} (h : OutI K k most i a T f) (hh : dep (cK K) (dl k) 26 = 26) (hi : i < 26) {nd : Nd} (hnd : T.nodes[f ((dl k).take (i + 1))]? = some nd) (hc : ¬ nd.1 - 1 = 0) :
    OutI K k most (i + 1) (f ((dl k).take (i + 1))) { T with nodes := T.nodes.set (f ((dl k).take (i + 1))) (nd.1 - 1, nd.2.1, nd.2.2) } f := by
  have hds : i < (dl k).length := by rw [dl_len];exact hi
  have hp := h.pos hh hi;have hcq : cO (cK K) (dl k) i ((dl k).take (i + 1)) = cK K ((dl k).take (i + 1)) := by unfold cO;rw [if_neg (bg_not hds)];rfl
  have hv := h.wf.cnt _ _ (.inr hp) hnd;rw [hcq] at hv;have h1 := h.wf.dec (q := (dl k).take (i + 1)) (.inr hp) (.inr (by rw [hcq];omega)) (by rw [hcq];omega) nd hnd;have hcs : cO (cK K) (dl k) (i + 1) = fun r => if r = (dl k).take (i + 1) then cO (cK K) (dl k) i r - 1 else cO (cK K) (dl k) i r := funext (cO_succ _ hds)
  refine ⟨by rw [hcs];exact h1, (h.fr.sets _ (by simp)).ext fun r => ?_, rfl, h.mo⟩;constructor
  · rintro ⟨x, y⟩;exact ⟨x, fun z => y ⟨(bg_succ hds r).2 (.inl z.1), z.2⟩⟩
  · rintro ⟨x, y⟩
    refine ⟨x, fun z => ?_⟩;rcases (bg_succ hds r).1 z.1 with h9 | h9
    · exact y ⟨h9, z.2⟩
    · have := z.2.2;rw [h9] at this;omega
theorem OutI.last {T : Tr} {K : List (Ky × Int)} {most : Int} {k : Ky} {i a : Nat} {f : List Int → Nat} (h : OutI K k most i a T f) (hh : dep (cK K) (dl k) 26 = 26) (hi : i < 26) {nd : Nd} (hnd : T.nodes[f ((dl k).take (i + 1))]? = some nd) (hc : nd.1 - 1 = 0) {np : Nd}
    (hnp : (T.nodes.set (f ((dl k).take (i + 1))) (nd.1 - 1, nd.2.1, nd.2.2))[a]? = some np) :
    OutI K k most (i + 1) (f ((dl k).take (i + 1))) { T with nodes := (T.nodes.set (f ((dl k).take (i + 1))) (nd.1 - 1, nd.2.1, nd.2.2)).set a (np.1, updN np.2.1 (dig k i).toNat 0, np.2.2), free := T.free ++ [f ((dl k).take (i + 1))] } f := by
  have hds : i < (dl k).length := by rw [dl_len];exact hi
  have hp := h.pos hh hi;have hcq : cO (cK K) (dl k) i ((dl k).take (i + 1)) = cK K ((dl k).take (i + 1)) := by unfold cO;rw [if_neg (bg_not hds)];rfl
  have hD : Pr (cK K) ((dl k).take i) := by
    cases i with
    | zero => exact .inl rfl
    | succ i => exact .inr (h.pos hh omQ)
  have hv := h.wf.cnt _ _ (.inr hp) hnd;rw [hcq] at hv;have h1 := h.wf.cut (q := (dl k).take (i + 1)) hD (.inr hp) (dl_take hi) (by rw [List.length_take, dl_len];omega) (dig_bd k i) (by rw [hcq];omega) nd hnd np (by rw [← h.at'];exact hnp);rw [← h.at'] at h1;have hcs : cO (cK K) (dl k) (i + 1) = fun r => if r = (dl k).take (i + 1) then cO (cK K) (dl k) i r - 1 else cO (cK K) (dl k) i r := funext (cO_succ _ hds)
  have hqn : (dl k).take (i + 1) ≠ [] := fun e => by have := congrArg List.length e;rw [List.length_take, dl_len] at this;simp at this
  have hDq : Pr (cK K) ((dl k).take (i + 1)) ∧ ¬ (bg (dl k) i ((dl k).take (i + 1)) ∧ (dl k).take (i + 1) ≠ [] ∧ cK K ((dl k).take (i + 1)) = 1) := ⟨.inr hp, fun x => bg_not hds x.1⟩;refine ⟨by rw [hcs];exact h1, ((h.fr.rel hDq (h.wf.lt _ (.inr hp)) fun r hr e => h.wf.inj _ _ hr.1 (.inr hp) e).sets _ (by simp)).ext fun r => ?_, rfl, h.mo⟩;constructor
  · rintro ⟨x, y⟩
    refine ⟨⟨x, fun z => y ⟨(bg_succ hds r).2 (.inl z.1), z.2⟩⟩, fun e => ?_⟩;subst e;exact y ⟨(bg_succ hds _).2 (.inr rfl), hqn, omQ⟩
  · rintro ⟨⟨x, y⟩, z⟩
    refine ⟨x, fun u => ?_⟩;rcases (bg_succ hds r).1 u.1 with h9 | h9
    · exact y ⟨h9, u.2⟩
    · exact z h9
theorem OutI.done {T : Tr} {K : List (Ky × Int)} {most : Int} {k : Ky} {a : Nat} {f : List Int → Nat} (h : OutI K k most 26 a T f) (hK : ∀ e ∈ K, WfK e.1) (hn : (K.map Prod.fst).Nodup) (hk : WfK k) (hh : has K k) (hb : (K.length : Int) ≤ most ∧ most ≤ 8192) (hnb : T.nodes.length ≤ 300001) : TW T (outK K k) most := by
  have hc : cO (cK K) (dl k) 26 = cK (outK K k) := (funext (outK_cO hn hh)).symm;have hl := outK_len hn hh;have hk2 : ∀ e ∈ outK K k, WfK e.1 := fun e he => hK e (List.mem_filter.1 he).1;have hW := h.wf;rw [hc] at hW;have hcc : ∀ r, cK (outK K k) r = cK K r - if bg (dl k) 26 r then 1 else 0 := fun r => by rw [← hc];rfl
  refine ⟨⟨f, ?_, ?_⟩, h.mo, omQ, hk2, ?_, hnb⟩
  · refine (hW.less (.inl rfl) (fun p hp => ?_) (fun p hp => .inr hp)).vals fun p hp hpl => ?_
    · rcases hp with e | e
      · exact .inl e
      · right;have := hcc p;omega
    · have hne : p ≠ dl k := by
        rintro rfl;rcases hp with e | e
        · rw [e] at hpl;simp at hpl
        · exact outK_has ((cK_full hk hk2).1 e)
      unfold vK2 outK;rw [List.find?_filter];have : (fun a : Ky × Int => decide ((!(a.1 == k)) = true ∧ (dl a.1 == p) = true)) = fun e => dl e.1 == p := by
        funext e;by_cases h9 : e.1 = k
        · have : (dl e.1 == p) = false := by rw [h9];exact beq_eq_false_iff_ne.2 (fun e2 => hne e2.symm)
          rw [this];simp
        · simp only [beq_eq_false_iff_ne.2 h9, Bool.not_false, true_and, Bool.decide_eq_true]
      rw [this]
  · refine h.fr.ext fun r => ?_
    unfold Pr;by_cases e : r = []
    · simp [e]
    · have h9 := hcc r
      constructor
      · rintro (x | x)
        · exact absurd x e
        · refine ⟨.inr omQ, fun y => ?_⟩
          rw [if_pos y.1] at h9;omega
      · rintro ⟨x | x, y⟩
        · exact absurd x e
        · right
          by_cases hb2 : bg (dl k) 26 r
          · rw [if_pos hb2] at h9
            have : cK K r ≠ 1 := fun z => y ⟨hb2, e, z⟩;omega
          · rw [if_neg hb2] at h9;omega
  · exact (List.Sublist.map Prod.fst List.filter_sublist).nodup hn
theorem findV_no {K : List (Ky × Int)} {k : Ky} (h : ¬ has K k) : findV K k = none := by
  cases e : findV K k with
  | none => rfl
  | some x => exact absurd (findV_some.1 (by rw [e];rfl)) h
theorem findV_snoc {K : List (Ky × Int)} {k : Ky} {x : Int} (h : ¬ has K k) : findV (K ++ [(k, x)]) k = some x := by
  have h1 := findV_no h;unfold findV at h1 ⊢;rw [List.find?_append];rw [Option.map_eq_none_iff] at h1;rw [h1];simp
theorem putK_new {K : List (Ky × Int)} {k : Ky} {x most : Int} (h : ¬ has K k) (hl : (K.length : Int) < most) : putK K k x most = K ++ [(k, x)] := by
  rw [putK, if_neg (fun e => h (findV_some.1 e)), if_neg omQ]
theorem putK_has {K : List (Ky × Int)} {k : Ky} {x most : Int} (h : has K k) : putK K k x most = K := by rw [putK, if_pos (findV_some.2 h)]
theorem outK_snoc {K : List (Ky × Int)} {k : Ky} {x : Int} (h : ¬ has K k) : outK (K ++ [(k, x)]) k = K := by
  have := outK_no h;unfold outK at this ⊢;rw [List.filter_append, this];simp
theorem LW.congr {S n : Nat} {L L' : Nat → List Nat} {P : Nat → Nat → Nat} {R : Nat → Int} {rg nm sz : Nat → Nat} (h : LW S n L P R rg nm sz) (e : ∀ i, i < n → L i = L' i) : LW S n L' P R rg nm sz where
  s1 := h.s1
  s2 := h.s2
  n1 := h.n1
  n2 := h.n2
  hrg := h.hrg
  hnm := h.hnm
  hsz i hi := by rw [← e i hi];exact h.hsz i hi
  nd i hi := by rw [← e i hi];exact h.nd i hi
  lt i hi := by rw [← e i hi];exact h.lt i hi
  rin i hi := by rw [← e i hi];exact h.rin i hi
  rout x hx hno := h.rout x hx fun i hi => by rw [e i hi];exact hno i hi
  ring i hi := by rw [← e i hi];exact h.ring i hi
theorem Sep.linksCongr {TL TN TI b S n : Nat} {L L' : Nat → List Nat} {l : List HP} {w : World} (h : Sep (linksA TL TN TI b S n L :: l) w) (e : ∀ i, i < n → L i = L' i) : Sep (linksA TL TN TI b S n L' :: l) w := by
  obtain ⟨P, R, rg, nm, sz, r1, c1, r2, c2, r3, c3, r4, c4, hW, hR⟩ := h.linksAE;exact Sep.linksAI (hW.congr e) rfl hR
theorem new_zeros {N : Nat} : zeros [.int .i64 0] N = (tab N (fun _ => (0 : Int))).flatMap e1 := by
  rw [zeros_flat (zc := [.int .i64 0]) (enc := e1) (0 : Int) N rfl];congr 1;apply List.ext_getElem
  · simp [tab]
  · intro i h1 h2
    rw [tab_get h2, List.getElem_replicate]
def one (ord : List Nat) : Nat → List Nat := fun _ => ord
abbrev lruL (TU TL TN TI b S : Nat) (ord : List Nat) (T : Nat → Int) (now : Int) (x : Nat × Option Addr × Nat) : List HP :=
  [blk b [.pointer (some ⟨x.1, 0, none⟩), .slice x.2.1 S x.2.2, .int .i64 now] TU, linksA TL TN TI x.1 S 1 (one ord), sls x.2.1 S x.2.2 TI 1 ((tab S T).flatMap e1)]
def lruA (TU TL TN TI b S : Nat) (ord : List Nat) (T : Nat → Int) (now : Int) : HP := box (fun _ : Nat × Option Addr × Nat => True) (lruL TU TL TN TI b S ord T now)
theorem Sep.lruAE {TU TL TN TI b S : Nat} {ord : List Nat} {T : Nat → Int} {now : Int} {l : List HP} {w : World} (h : Sep (lruA TU TL TN TI b S ord T now :: l) w) :
    ∃ bl r c, WL S 1 (one ord) ∧ Bk r ∧ Sep (blk b [.pointer (some ⟨bl, 0, none⟩), .slice r S c, .int .i64 now] TU :: linksA TL TN TI bl S 1 (one ord) :: sls r S c TI 1 ((tab S T).flatMap e1) :: l) w := by
  obtain ⟨x, _, hR⟩ := h.boxE;have h1 := (hR.pk (.there .here)).linksWL;exact ⟨x.1, x.2.1, x.2.2, h1, (hR.pk (.there (.there .here))).bk h1.s1, hR⟩
theorem Sep.lruAI {TU TL TN TI b S bl c : Nat} {r : Option Addr} {L : Nat → List Nat} {ord : List Nat} {T : Nat → Int} {now : Int} {l : List HP} {w : World} (e : L 0 = ord)
    (h : Sep (blk b [.pointer (some ⟨bl, 0, none⟩), .slice r S c, .int .i64 now] TU :: linksA TL TN TI bl S 1 L :: sls r S c TI 1 ((tab S T).flatMap e1) :: l) w) : Sep (lruA TU TL TN TI b S ord T now :: l) w := by
  have h1 := (h.swap).linksCongr (L' := one ord) (fun i hi => by
    have hi0 : i = 0 := Nat.lt_one_iff.1 hi;subst hi0;exact e)
  exact Sep.boxI (bl, r, c) trivial h1.swap
theorem isSome_get {i : Nat} {l : List Nat} : (l[i]?).isSome = decide (i < l.length) := by
  by_cases h : i < l.length
  · rw [List.getElem?_eq_getElem h];simp [h]
  · rw [List.getElem?_eq_none omQ];simp [h]
section
variable {S : Nat} {ord : List Nat}
theorem one_first : endS 1 (one ord) 0 0 = ord[0]? := by
  rw [← List.head?_eq_getElem?];rfl
theorem one_next (h : WL S 1 (one ord)) {i : Nat} (hi : i < ord.length) : stepS S 1 (one ord) 0 ((ord[i]?.getD 0 : Nat) : Int) = ord[i + 1]? := by
  have h1 := h.step (k := 0) (i := i) (w := 0) dcQ (show i < (dirL 0 (one ord 0)).length from hi);rw [List.getElem?_eq_getElem hi];exact h1
theorem one_of {s : Nat} : ofL 1 (one ord) s = if s ∈ ord then some 0 else none := by
  unfold ofL one;simp only [List.range_succ, List.range_zero, List.nil_append, List.find?_cons, List.find?_nil];by_cases h : s ∈ ord
  · simp [h]
  · simp [h]
theorem one_all : allS 1 (one ord) 0 = ord := rfl
theorem WL.ords (h : WL S 1 (one ord)) : ord.Nodup ∧ (∀ x ∈ ord, x < S) ∧ ord.length ≤ S := ⟨h.nd 0 dcQ, h.lt 0 dcQ, h.len (i := 0) dcQ⟩
theorem one_out {s : Nat} (hs : s < S) : (outS S 1 (one ord) (s : Int)) 0 = ord.erase s := by
  by_cases h : s ∈ ord
  · rw [outS_has hs (i := 0) (by rw [one_of, if_pos h]), upd_eq];rfl
  · rw [outS_no hs (by rw [one_of, if_neg h]), List.erase_of_not_mem h];rfl
theorem one_outE {s : Nat} (hs : s < S) : outE S 1 (one ord) (s : Int) = if s ∈ ord then 0 else 6 := by
  by_cases h : s ∈ ord
  · rw [outE_has hs (i := 0) (by rw [one_of, if_pos h]), if_pos h]
  · rw [outE_no hs (by rw [one_of, if_neg h]), if_neg h]
theorem one_see (hW : WL S 1 (one ord)) {s : Nat} (hs : s < S) : (addS S 1 (outS S 1 (one ord) (s : Int)) 1 0 (s : Int)) 0 = ord.erase s ++ [s] := by
  have hno : ofL 1 (outS S 1 (one ord) (s : Int)) s = none := by
    by_cases h : s ∈ ord
    · rw [outS_has hs (i := 0) (by rw [one_of, if_pos h])]
      exact hW.ofOut (i := 0) dcQ h
    · rw [outS_no hs (by rw [one_of, if_neg h]), one_of, if_neg h]
  have h1 := addS_new (S := S) (n := 1) (L := outS S 1 (one ord) (s : Int)) (k := 0) (s := s) (w := 1) dcQ hs hno;rw [show ((0 : Nat) : Int) = 0 from rfl] at h1;rw [h1, upd_eq, one_out hs];rfl
end
def seeV (S : Nat) (now s : Int) : Value := if 0 ≤ s ∧ s < S then .tuple [.int .i64 (now + 1), .int .i64 0].toArray else .tuple [.int .i64 0, .int .i64 2].toArray
def seeO (S : Nat) (ord : List Nat) (s : Int) : List Nat := if 0 ≤ s ∧ s < S then ord.erase s.toNat ++ [s.toNat] else ord
def seeT (S : Nat) (T : Nat → Int) (now s : Int) : Nat → Int := if 0 ≤ s ∧ s < S then upd T s.toNat (now + 1) else T
def seeN (S : Nat) (now s : Int) : Int := if 0 ≤ s ∧ s < S then now + 1 else now
def loutE (S : Nat) (ord : List Nat) (s : Int) : Int := if 0 ≤ s ∧ s < S then (if s.toNat ∈ ord then 0 else 6) else 2
def loutO (S : Nat) (ord : List Nat) (s : Int) : List Nat := if 0 ≤ s ∧ s < S then ord.erase s.toNat else ord
def whenV (S : Nat) (ord : List Nat) (T : Nat → Int) (s : Int) : Value := if 0 ≤ s ∧ s < S ∧ s.toNat ∈ ord then .tuple [.int .i64 (T s.toNat), .bool true].toArray else .tuple [.int .i64 0, .bool false].toArray
theorem cst_filter {M : List Nat} {i e : Nat} {p : Nat → Bool} (hi : i < M.length) : cst ((M.take (i + 1)).filter p) = if p (M[i]?.getD e) then cst ((M.take i).filter p) ++ [((M[i]?.getD e : Nat) : Int)] else cst ((M.take i).filter p) := by
  rw [List.take_succ_eq_append_getElem hi, List.filter_append, List.getElem?_eq_getElem hi];show cst (List.filter p (M.take i) ++ List.filter p [M[i]]) = if p M[i] then _ else _
  by_cases h : p M[i]
  · rw [if_pos h, List.filter_cons_of_pos h, List.filter_nil, cst_snoc];rfl
  · rw [if_neg h, List.filter_cons_of_neg h, List.filter_nil, List.append_nil]
def num (ds : List Int) : Int := ds.foldl (fun x d => x * 16 + d) 0
def DigS (ds : List Int) : Prop := ∀ d ∈ ds, 0 ≤ d ∧ d < 16
def seg (ds : List Int) (f m : Nat) : List Int := (ds.drop f).take m
def keyD (ds : List Int) : Ky := (num (seg ds 16 2), num (seg ds 0 8), num (seg ds 8 8), num (seg ds 18 4), num (seg ds 22 4))
theorem dl_dig (k : Ky) : DigS (dl k) := by
  intro d hd;unfold dl at hd;obtain ⟨i, _, rfl⟩ := List.mem_map.1 hd;exact dig_bd k i
theorem keyD_dl {k : Ky} (h : WfK k) : keyD (dl k) = k := by
  obtain ⟨p, s, d, a, b⟩ := k;have q1 := h.p;have q2 := h.s;have q3 := h.d;have q4 := h.a;have q5 := h.b;dsimp only at q1 q2 q3 q4 q5;have e1 : num (seg (dl (p, s, d, a, b)) 16 2) = p := by
    show ((0 * 16 + p % 256 / 16 % 16) * 16 + p % 256 % 16 : Int) = p;omega
  have e2 : num (seg (dl (p, s, d, a, b)) 0 8) = s := by
    show ((((((((0 * 16 + s / 16777216 % 256 / 16 % 16) * 16 + s / 16777216 % 256 % 16) * 16 + s / 65536 % 256 / 16 % 16) * 16 + s / 65536 % 256 % 16) * 16 + s / 256 % 256 / 16 % 16) * 16 + s / 256 % 256 % 16) * 16 + s % 256 / 16 % 16) * 16 + s % 256 % 16 : Int) = s;omega
  have e3 : num (seg (dl (p, s, d, a, b)) 8 8) = d := by
    show ((((((((0 * 16 + d / 16777216 % 256 / 16 % 16) * 16 + d / 16777216 % 256 % 16) * 16 + d / 65536 % 256 / 16 % 16) * 16 + d / 65536 % 256 % 16) * 16 + d / 256 % 256 / 16 % 16) * 16 + d / 256 % 256 % 16) * 16 + d % 256 / 16 % 16) * 16 + d % 256 % 16 : Int) = d;omega
  have e4 : num (seg (dl (p, s, d, a, b)) 18 4) = a := by
    show ((((0 * 16 + a / 256 % 256 / 16 % 16) * 16 + a / 256 % 256 % 16) * 16 + a % 256 / 16 % 16) * 16 + a % 256 % 16 : Int) = a;omega
  have e5 : num (seg (dl (p, s, d, a, b)) 22 4) = b := by
    show ((((0 * 16 + b / 256 % 256 / 16 % 16) * 16 + b / 256 % 256 % 16) * 16 + b % 256 / 16 % 16) * 16 + b % 256 % 16 : Int) = b;omega
  unfold keyD;rw [e1, e2, e3, e4, e5]
def undL (c : List Int → Nat) : Nat → List Int → List (List Int)
  | 0, p => [p]
  | d + 1, p => (List.range 16).flatMap fun x : Nat => if 0 < c (p ++ [(x : Int)]) then undL c d (p ++ [(x : Int)]) else []
def undX (c : List Int → Nat) (d : Nat) (p : List Int) (x : Nat) : List (List Int) := (List.range x).flatMap fun x : Nat => if 0 < c (p ++ [(x : Int)]) then undL c d (p ++ [(x : Int)]) else []
theorem undX_succ {c : List Int → Nat} {d : Nat} {p : List Int} {x : Nat} : undX c d p (x + 1) = undX c d p x ++ if 0 < c (p ++ [(x : Int)]) then undL c d (p ++ [(x : Int)]) else [] := by
  unfold undX;rw [List.range_succ, List.flatMap_append];simp
theorem undX_all {c : List Int → Nat} {d : Nat} {p : List Int} : undX c d p 16 = undL c (d + 1) p := rfl
theorem DigS.set {xs : List Int} {k : Nat} {x : Int} (h : DigS xs) (hx : 0 ≤ x ∧ x < 16) : DigS (xs.set k x) := by
  intro d hd;rcases List.mem_or_eq_of_mem_set hd with hd | rfl
  · exact h d hd
  · exact hx
theorem undL_mem {c : List Int → Nat} : ∀ {d : Nat} {p q : List Int}, q ∈ undL c d p → q.length = p.length + d ∧ q.take p.length = p ∧ (d = 0 ∨ 0 < c q)
  | 0, p, q, h => by
    have hq : q = p := by simpa [undL] using h
    subst hq;exact ⟨rfl, List.take_of_length_le (Nat.le_refl _), .inl rfl⟩
  | d + 1, p, q, h => by
    unfold undL at h;obtain ⟨x, hx, hq⟩ := List.mem_flatMap.1 h;by_cases hc : 0 < c (p ++ [(x : Int)])
    · rw [if_pos hc] at hq
      obtain ⟨h1, h2, h3⟩ := undL_mem hq;rw [List.length_append] at h1 h2;refine ⟨by simp at h1;omega, ?_, .inr ?_⟩
      · have h4 := congrArg (fun u => u.take p.length) h2
        simpa [List.take_take] using h4
      · rcases h3 with h3 | h3
        · subst h3
          have hq2 : q = p ++ [(x : Int)] := by simpa [undL] using hq
          rw [hq2];exact hc
        · exact h3
    · rw [if_neg hc] at hq;simp at hq
theorem undL_nodup {c : List Int → Nat} : ∀ {d : Nat} {p : List Int}, (undL c d p).Nodup
  | 0, p => by simp [undL]
  | d + 1, p => by
    have key : ∀ x, (undX c d p x).Nodup ∧ ∀ q ∈ undX c d p x, ∃ y : Nat, y < x ∧ q.take (p.length + 1) = p ++ [(y : Int)] := by
      intro x
      induction x with
      | zero => exact ⟨by simp [undX], fun q h => by simp [undX] at h⟩
      | succ x ih =>
        rw [undX_succ];by_cases hc : 0 < c (p ++ [(x : Int)])
        · rw [if_pos hc]
          have hm : ∀ q ∈ undL c d (p ++ [(x : Int)]), q.take (p.length + 1) = p ++ [(x : Int)] := fun q hq => by
            have h1 := (undL_mem hq).2.1;rw [List.length_append] at h1;exact h1
          refine ⟨?_, fun q hq => ?_⟩
          · rw [List.nodup_append]
            refine ⟨ih.1, undL_nodup, fun a ha b hb e => ?_⟩;obtain ⟨y, hy, h2⟩ := ih.2 a ha;have h3 := hm b hb;rw [← e, h2] at h3;have h4 := List.append_cancel_left h3;simp at h4;omega
          · rcases List.mem_append.1 hq with hq | hq
            · obtain ⟨y, hy, h2⟩ := ih.2 q hq
              exact ⟨y, omQ, h2⟩
            · exact ⟨x, omQ, hm q hq⟩
        · rw [if_neg hc, List.append_nil]
          exact ⟨ih.1, fun q hq => let ⟨y, hy, h2⟩ := ih.2 q hq;⟨y, omQ, h2⟩⟩
    rw [← undX_all];exact (key 16).1
theorem cK_some {K : List (Ky × Int)} {q : List Int} (hl : q.length = 26) (h : 0 < cK K q) : ∃ e ∈ K, dl e.1 = q := by
  unfold cK at h;rw [List.countP_pos_iff] at h;obtain ⟨e, he, hp⟩ := h;rw [isPrefix_iff, hl, List.take_of_length_le (by rw [dl_len];omega)] at hp;exact ⟨e, he, hp.symm⟩
theorem cK_pre {K : List (Ky × Int)} {p q : List Int} (h : q.take p.length = p) (hc : 0 < cK K q) : 0 < cK K p := by
  unfold cK at hc ⊢;rw [List.countP_pos_iff] at hc ⊢;obtain ⟨e, he, hp⟩ := hc;refine ⟨e, he, ?_⟩;rw [List.isPrefixOf_iff_prefix] at hp ⊢;have h2 : p <+: q := by rw [← h];exact List.take_prefix _ _
  exact h2.trans hp
theorem undL_all {K : List (Ky × Int)} : ∀ {d : Nat} {p q : List Int}, q.length = p.length + d → q.take p.length = p → DigS q → 0 < cK K q → q ∈ undL (cK K) d p
  | 0, p, q, hl, hp, _, _ => by
    rw [List.take_of_length_le omQ] at hp;simp [undL, hp]
  | d + 1, p, q, hl, hp, hd, hc => by
    have hlt : p.length < q.length := omQ;have hx := hd _ (List.getElem_mem hlt);obtain ⟨x, hxe⟩ : ∃ x : Nat, q[p.length] = (x : Int) := ⟨(q[p.length]).toNat, omQ⟩;have hx16 : x < 16 := omQ;have h1 : q.take (p ++ [(x : Int)]).length = p ++ [(x : Int)] := by
      rw [List.length_append, show p.length + [(x : Int)].length = p.length + 1 from rfl, List.take_succ_eq_append_getElem hlt, hp, hxe]
    have h2 := cK_pre h1 hc;unfold undL;refine List.mem_flatMap.2 ⟨x, List.mem_range.2 hx16, ?_⟩;rw [if_pos h2];exact undL_all (by rw [List.length_append];simp;omega) h1 hd hc
def undK' (K : List (Ky × Int)) (k : Ky) (n : Int) : List Ky := if 0 ≤ n ∧ n ≤ 26 ∧ 0 < cK K ((dl k).take n.toNat) then (undL (cK K) (26 - n.toNat) ((dl k).take n.toNat)).map keyD else []
section
variable {K : List (Ky × Int)} {k k' : Ky} {n : Int}
theorem undL_key (hK : ∀ e ∈ K, WfK e.1) {d : Nat} {p q : List Int} (hl : p.length + d = 26) (hc : 0 < cK K p) (h : q ∈ undL (cK K) d p) : ∃ e ∈ K, dl e.1 = q ∧ keyD q = e.1 := by
  obtain ⟨h1, h2, h3⟩ := undL_mem h;have h4 : 0 < cK K q := by
    rcases h3 with h3 | h3
    · subst h3
      have hq2 : q = p := by simpa [undL] using h
      rw [hq2];exact hc
    · exact h3
  obtain ⟨e, he, hd⟩ := cK_some omQ h4;exact ⟨e, he, hd, by rw [← hd, keyD_dl (hK e he)]⟩
theorem undK_mem (hK : ∀ e ∈ K, WfK e.1) (hk' : WfK k') : k' ∈ undK' K k n ↔ (0 ≤ n ∧ n ≤ 26) ∧ has K k' ∧ (dl k').take n.toNat = (dl k).take n.toNat := by
  unfold undK';constructor
  · intro h
    split at h
    · rename_i hc
      obtain ⟨q, hq, rfl⟩ := List.mem_map.1 h;have hpl : ((dl k).take n.toNat).length = n.toNat := by rw [List.length_take, dl_len];omega
      obtain ⟨e, he, hd, hke⟩ := undL_key hK (by rw [hpl];omega) hc.2.2 hq;have hm := (undL_mem hq).2.1;rw [hpl] at hm;refine ⟨⟨hc.1, hc.2.1⟩, ⟨e, he, hke.symm⟩, ?_⟩;rw [hke, hd, hm]
    · simp at h
  · rintro ⟨hn, ⟨e, he, hek⟩, ht⟩
    have hpl : ((dl k).take n.toNat).length = n.toNat := by rw [List.length_take, dl_len];omega
    have hcq : 0 < cK K (dl k') := (cK_full hk' hK).2 ⟨e, he, hek⟩;have hcp : 0 < cK K ((dl k).take n.toNat) := cK_pre (q := dl k') (by rw [hpl];exact ht) hcq;rw [if_pos ⟨hn.1, hn.2, hcp⟩];refine List.mem_map.2 ⟨dl k', undL_all (by rw [hpl, dl_len];omega) (by rw [hpl];exact ht) (dl_dig k') hcq, keyD_dl hk'⟩
theorem undK_nodup (hK : ∀ e ∈ K, WfK e.1) : (undK' K k n).Nodup := by
  unfold undK'
  split
  · rename_i hc
    have hpl : ((dl k).take n.toNat).length = n.toNat := by rw [List.length_take, dl_len];omega
    have key : ∀ {l : List (List Int)}, l.Nodup → (∀ q ∈ l, ∃ e ∈ K, dl e.1 = q ∧ keyD q = e.1) → (l.map keyD).Nodup := by
      intro l
      induction l with
      | nil => intro _ _;simp
      | cons q t ih =>
        intro hn hm;rw [List.nodup_cons] at hn;rw [List.map_cons, List.nodup_cons];refine ⟨fun hmem => ?_, ih hn.2 fun q' h' => hm q' (List.mem_cons_of_mem _ h')⟩;obtain ⟨q', hq', e⟩ := List.mem_map.1 hmem;obtain ⟨e1, _, h1, h2⟩ := hm q List.mem_cons_self;obtain ⟨e2, _, h3, h4⟩ := hm q' (List.mem_cons_of_mem _ hq');have : q' = q := by rw [← h3, ← h1, ← h4, ← h2, e]
        exact hn.1 (by rw [← this];exact hq')
    exact key undL_nodup fun q hq => undL_key hK (by rw [hpl];omega) hc.2.2 hq
  · simp
end
def ltD (a b : List Int) : Prop := ∃ i, a.take i = b.take i ∧ ∃ x y, a[i]? = some x ∧ b[i]? = some y ∧ x < y
theorem undL_sorted {c : List Int → Nat} : ∀ {d : Nat} {p : List Int}, (undL c d p).Pairwise ltD
  | 0, p => by simp [undL]
  | d + 1, p => by
    have hm : ∀ {x : Nat} {q : List Int}, q ∈ undL c d (p ++ [(x : Int)]) → q.take p.length = p ∧ q[p.length]? = some (x : Int) := by
      intro x q hq;have h1 := (undL_mem hq).2.1;rw [List.length_append] at h1;have h1' : q.take (p.length + 1) = p ++ [(x : Int)] := h1;constructor
      · have h4 := congrArg (fun u => u.take p.length) h1'
        simpa [List.take_take] using h4
      · have h4 := congrArg (fun u => u[p.length]?) h1'
        simpa [List.getElem?_take] using h4
    have key : ∀ x, (undX c d p x).Pairwise ltD ∧ ∀ q ∈ undX c d p x, q.take p.length = p ∧ ∃ y : Nat, y < x ∧ q[p.length]? = some (y : Int) := by
      intro x
      induction x with
      | zero => exact ⟨by simp [undX], fun q h => by simp [undX] at h⟩
      | succ x ih =>
        rw [undX_succ];by_cases hc : 0 < c (p ++ [(x : Int)])
        · rw [if_pos hc]
          refine ⟨?_, fun q hq => ?_⟩
          · rw [List.pairwise_append]
            refine ⟨ih.1, undL_sorted, fun a ha b hb => ?_⟩;obtain ⟨h2, y, hy, h3⟩ := ih.2 a ha;obtain ⟨h4, h5⟩ := hm hb;exact ⟨p.length, by rw [h2, h4], y, x, h3, h5, omQ⟩
          · rcases List.mem_append.1 hq with hq | hq
            · obtain ⟨h2, y, hy, h3⟩ := ih.2 q hq
              exact ⟨h2, y, omQ, h3⟩
            · exact ⟨(hm hq).1, x, omQ, (hm hq).2⟩
        · rw [if_neg hc, List.append_nil]
          exact ⟨ih.1, fun q hq => let ⟨h2, y, hy, h3⟩ := ih.2 q hq;⟨h2, y, omQ, h3⟩⟩
    rw [← undX_all];exact (key 16).1
def outAll (K : List (Ky × Int)) (ks : List Ky) : List (Ky × Int) := K.filter fun e => !(ks.contains e.1)
theorem outAll_has {K : List (Ky × Int)} {ks : List Ky} {k : Ky} (h : has K k) (hn : k ∉ ks) : has (outAll K ks) k := by
  obtain ⟨e, he, hk⟩ := h;refine ⟨e, ?_, hk⟩;unfold outAll;rw [List.mem_filter];exact ⟨he, by rw [hk];simpa using hn⟩
structure KI (K : List (Ky × Int)) (n : Nat) : Prop where
  le : K.length ≤ n
  nd : (K.map Prod.fst).Nodup
  wf : ∀ e ∈ K, WfK e.1
theorem KI.nil : KI [] 0 := ⟨Nat.le_refl _, by simp, by simp⟩
theorem KI.snoc {K : List (Ky × Int)} {n : Nat} {k : Ky} {x : Int} (h : KI K n) (hk : WfK k) (hn : ¬ has K k) : KI (K ++ [(k, x)]) (n + 1) := by
  refine ⟨by rw [List.length_append];have := h.le;simp;omega, ?_, ?_⟩
  · rw [List.map_append, List.nodup_append]
    refine ⟨h.nd, by simp, fun a ha b hb e => ?_⟩;simp only [List.map_cons, List.map_nil, List.mem_singleton] at hb;obtain ⟨e', he, h9⟩ := List.mem_map.1 ha;exact hn ⟨e', he, by rw [h9, e, hb]⟩
  · intro e he
    rcases List.mem_append.1 he with h1 | h1
    · exact h.wf e h1
    · simp only [List.mem_singleton] at h1;subst h1;exact hk
theorem KI.mono {K : List (Ky × Int)} {n m : Nat} (h : KI K n) (hm : n ≤ m) : KI K m := ⟨Nat.le_trans h.le hm, h.nd, h.wf⟩
theorem KI.put {K : List (Ky × Int)} {n : Nat} {k : Ky} {x most : Int} (h : KI K n) (hk : WfK k) : KI (putK K k x most) (n + 1) := by
  unfold putK
  split
  · exact h.mono omQ
  · split
    · exact h.mono omQ
    · refine h.snoc hk fun hh => ?_
      rename_i h1 _
      exact h1 (findV_some.2 hh)
theorem putK_mem {K : List (Ky × Int)} {k : Ky} {x most : Int} (hl : (K.length : Int) < most) (k' : Ky) : has (putK K k x most) k' ↔ has K k' ∨ k' = k := by
  by_cases hh : has K k
  · rw [putK_has hh]
    constructor
    · exact .inl
    · rintro (h | rfl)
      · exact h
      · exact hh
  · rw [putK_new hh hl]
    constructor
    · rintro ⟨e, he, h9⟩
      rcases List.mem_append.1 he with h1 | h1
      · exact .inl ⟨e, h1, h9⟩
      · simp only [List.mem_singleton] at h1;subst h1;exact .inr h9.symm
    · rintro (⟨e, he, h9⟩ | rfl)
      · exact ⟨e, List.mem_append.2 (.inl he), h9⟩
      · exact ⟨(k', x), by simp, rfl⟩
abbrev neg (ps : List Ky) : List (Ky × Int) := ps.map fun k => (k, -1)
theorem neg_take {ps : List Ky} {j : Nat} (h : j < ps.length) : neg (ps.take (j + 1)) = neg (ps.take j) ++ [(ps[j], -1)] := by
  rw [List.take_succ_eq_append_getElem h, neg, List.map_append];rfl
theorem KI.nots {K : List (Ky × Int)} {n j : Nat} {ps : List Ky} (h : KI (K ++ neg ps) n) (hj : j < ps.length) : ¬ has (K ++ neg (ps.take j)) ps[j] := by
  have h1 : (K ++ neg ps) = (K ++ neg (ps.take j)) ++ ((ps[j], -1) :: neg (ps.drop (j + 1))) := by
    rw [List.append_assoc];congr 1;rw [show ((ps[j], (-1 : Int)) :: neg (ps.drop (j + 1))) = neg (ps.drop j) from by rw [List.drop_eq_getElem_cons hj];rfl, ← List.map_append, List.take_append_drop]
  have h2 := h.nd;rw [h1, List.map_append, List.nodup_append] at h2;rintro ⟨e, he, h9⟩;exact h2.2.2 e.1 (List.mem_map.2 ⟨e, he, rfl⟩) ps[j] (by simp) h9
theorem KI.out {K : List (Ky × Int)} {n j : Nat} {ps : List Ky} (h : KI (K ++ neg ps) n) (hj : j < ps.length) :
    findV (K ++ neg (ps.take (j + 1))) ps[j] = some (-1) ∧ outK (K ++ neg (ps.take (j + 1))) ps[j] = K ++ neg (ps.take j) := by
  have hn := h.nots hj;rw [neg_take hj, ← List.append_assoc];exact ⟨findV_snoc hn, outK_snoc hn⟩
theorem und_has {K : List (Ky × Int)} {k : Ky} {n : Int} (hK : ∀ e ∈ K, WfK e.1) {y : Ky} (h : y ∈ undK' K k n) : has K y ∧ WfK y := by
  unfold undK' at h
  split at h
  · rename_i hc
    obtain ⟨q, hq, rfl⟩ := List.mem_map.1 h;obtain ⟨e, he, h1, h2⟩ := undL_key hK (by rw [List.length_take, dl_len];omega) hc.2.2 hq;exact ⟨⟨e, he, h2.symm⟩, by rw [h2];exact hK e he⟩
  · simp at h
theorem und_len {K : List (Ky × Int)} {k : Ky} {n : Int} (hK : ∀ e ∈ K, WfK e.1) : (undK' K k n).length ≤ K.length := by
  have h := nodup_le2 (l2 := K.map Prod.fst) (undK_nodup (k := k) (n := n) hK) fun y hy => by
    obtain ⟨e, he, h9⟩ := (und_has hK hy).1;exact List.mem_map.2 ⟨e, he, h9⟩
  rwa [List.length_map] at h
theorem und_all {K : List (Ky × Int)} (hK : ∀ e ∈ K, WfK e.1) {e : Ky × Int} (he : e ∈ K) : e.1 ∈ undK' K (0, 0, 0, 0, 0) 0 :=
  (undK_mem hK (hK e he)).2 ⟨⟨omQ, omQ⟩, ⟨e, he, rfl⟩, rfl⟩
theorem nodup_not {α : Type} {xs : List α} (h : xs.Nodup) {i : Nat} (hi : i < xs.length) : xs[i] ∉ xs.take i := by
  intro hm;obtain ⟨j, hj, h1⟩ := List.getElem_of_mem hm;rw [List.length_take] at hj;rw [List.getElem_take] at h1;exact List.pairwise_iff_getElem.1 h j i omQ hi omQ h1
structure AllK (K : List (Ky × Int)) (ks : List Ky) : Prop where
  nd : ks.Nodup
  has : ∀ y ∈ ks, Sx.has K y ∧ WfK y
  all : ∀ e ∈ K, e.1 ∈ ks
  le : ks.length ≤ K.length
theorem AllK.of {K : List (Ky × Int)} (hK : ∀ e ∈ K, WfK e.1) : AllK K (undK' K (0, 0, 0, 0, 0) 0) := ⟨undK_nodup hK, fun y h => und_has hK h, fun e h => und_all hK h, und_len hK⟩
theorem AllK.left {K : List (Ky × Int)} {ks : List Ky} (h : AllK K ks) {i : Nat} (hi : i < ks.length) : Sx.has (outAll K (ks.take i)) ks[i] := outAll_has (h.has _ (List.getElem_mem _)).1 (nodup_not h.nd hi)
section
variable {P : Program} {n d : Nat} {a : Act} {S : Slots} {l l' : List HP} {w : World} {t : TypeId} {pos : String} {af : Array Edge} {g : Option (Nat × Bool)} {K : Act → World → Prop} {Q : Exit → Act → World → Prop}
end
theorem sorted_uniq {α : Type} {R : α → α → Prop} (as : ∀ {a b}, R a b → ¬ R b a) : ∀ {l1 l2 : List α}, l1.Pairwise R → l2.Pairwise R → (∀ x, x ∈ l1 ↔ x ∈ l2) → l1 = l2
  | [], [], _, _, _ => rfl
  | [], b :: t2, _, _, h => by have := (h b).2 List.mem_cons_self;simp at this
  | a :: t1, [], _, _, h => by have := (h a).1 List.mem_cons_self;simp at this
  | a :: t1, b :: t2, h1, h2, h => by
    rw [List.pairwise_cons] at h1 h2;have e : a = b := by
      rcases List.mem_cons.1 ((h a).1 List.mem_cons_self) with e | ha
      · exact e
      · rcases List.mem_cons.1 ((h b).2 List.mem_cons_self) with e | hb
        · exact e.symm
        · exact absurd (h1.1 b hb) (as (h2.1 a ha))
    subst e;have irr : ¬ R a a := fun r => as r r;have ht : t1 = t2 := sorted_uniq as h1.2 h2.2 fun x => by
      constructor
      · intro hx
        rcases List.mem_cons.1 ((h x).1 (List.mem_cons_of_mem _ hx)) with e | hx2
        · subst e;exact absurd (h1.1 x hx) irr
        · exact hx2
      · intro hx
        rcases List.mem_cons.1 ((h x).2 (List.mem_cons_of_mem _ hx)) with e | hx2
        · subst e;exact absurd (h2.1 x hx) irr
        · exact hx2
    rw [ht]
theorem ltD.asymm {a b : List Int} (h : ltD a b) : ¬ ltD b a := by
  obtain ⟨i, h1, x, y, h2, h3, h4⟩ := h;rintro ⟨j, k1, u, v, k2, k3, k4⟩;rcases Nat.lt_trichotomy i j with h | h | h
  · have h5 : b[i]? = a[i]? := by
      have := congrArg (fun l => l[i]?) k1;simpa [List.getElem?_take, h] using this
    rw [h2, h3] at h5;have := Option.some.inj h5;omega
  · subst h
    rw [h3] at k2;rw [h2] at k3;have := Option.some.inj k2;have := Option.some.inj k3;omega
  · have h5 : a[j]? = b[j]? := by
      have := congrArg (fun l => l[j]?) h1;simpa [List.getElem?_take, h] using this
    rw [k2, k3] at h5;have := Option.some.inj h5;omega
def ltK (a b : Ky) : Prop := ltD (dl a) (dl b)
theorem ltK.asymm {a b : Ky} (h : ltK a b) : ¬ ltK b a := ltD.asymm h
theorem undK_sorted {K : List (Ky × Int)} {k : Ky} {n : Int} (hK : ∀ e ∈ K, WfK e.1) : (undK' K k n).Pairwise ltK := by
  unfold undK'
  split
  · rename_i hc
    have hpl : ((dl k).take n.toNat).length = n.toNat := by rw [List.length_take, dl_len];omega
    rw [List.pairwise_map];refine undL_sorted.imp_of_mem fun {a b} ha hb h => ?_;obtain ⟨e1, _, h1, h2⟩ := undL_key hK (by rw [hpl];omega) hc.2.2 ha;obtain ⟨e2, _, h3, h4⟩ := undL_key hK (by rw [hpl];omega) hc.2.2 hb;unfold ltK;rw [h2, h4, h1, h3];exact h
  · exact List.Pairwise.nil
theorem undK_uniq {K : List (Ky × Int)} {k : Ky} {n : Int} (hK : ∀ e ∈ K, WfK e.1) {l : List Ky} (hs : l.Pairwise ltK) (hm : ∀ y, y ∈ l ↔ y ∈ undK' K k n) : l = undK' K k n := sorted_uniq ltK.asymm hs (undK_sorted hK) hm
theorem undK_mem2 {K : List (Ky × Int)} {k y : Ky} {n : Int} (hK : ∀ e ∈ K, WfK e.1) : y ∈ undK' K k n ↔ (0 ≤ n ∧ n ≤ 26) ∧ has K y ∧ (dl y).take n.toNat = (dl k).take n.toNat := by
  constructor
  · intro h
    exact (undK_mem hK (und_has hK h).2).1 h
  · intro h
    obtain ⟨e, he, h9⟩ := h.2.1;exact (undK_mem hK (h9 ▸ hK e he)).2 h
theorem undK_same {K M : List (Ky × Int)} {k : Ky} {n : Int} (hK : ∀ e ∈ K, WfK e.1) (hM : ∀ e ∈ M, WfK e.1) (h : ∀ y, has K y ↔ has M y) : undK' K k n = undK' M k n :=
  undK_uniq hM (undK_sorted hK) fun y => by rw [undK_mem2 hK, undK_mem2 hM, h y]
theorem ltK.first {a b : Ky} (h : ltK a b) {d : Nat} (hd : d ≤ 26) (he : ∀ j, j < d → dig a j = dig b j) : d < 26 ∧ (dig a d ≠ dig b d → dig a d < dig b d) := by
  obtain ⟨i, h1, x, y, h2, h3, h4⟩ := h;have hi : i < 26 := by
    rcases Nat.lt_or_ge i 26 with h | h
    · exact h
    · rw [List.getElem?_eq_none (by rw [dl_len];exact h)] at h2;exact absurd h2 (by simp)
  rw [dl_get hi] at h2 h3;have e2 := Option.some.inj h2;have e3 := Option.some.inj h3;have hdi : d ≤ i := by
    rcases Nat.lt_or_ge i d with h | h
    · have := he i h;omega
    · exact h
  refine ⟨omQ, fun hne => ?_⟩;rcases Nat.lt_or_ge d i with h | h
  · exfalso
    have h5 := congrArg (fun l => l[d]?) h1;simp only [List.getElem?_take, h, if_true] at h5;rw [dl_get omQ, dl_get omQ] at h5;exact hne (Option.some.inj h5)
  · have : d = i := omQ
    subst this;omega
theorem turn_onto {N m t : Nat} (hm : m < N) : ∃ j, j < N ∧ (N - 1 - j + t) % N = m := by
  refine ⟨(N - 1 + t - m) % N, Nat.mod_lt _ omQ, ?_⟩;have h1 := Nat.div_add_mod (N - 1 + t - m) N;have h2 := Nat.mod_lt (N - 1 + t - m) (show 0 < N by omega);generalize (N - 1 + t - m) % N = j at h1 h2;generalize (N - 1 + t - m) / N = q at h1;have h3 : N - 1 - j + t = m + N * q := omQ;rw [h3, Nat.add_mul_mod_self_left, Nat.mod_eq_of_lt hm]
theorem putK_has2 {K : List (Ky × Int)} {k : Ky} {x most : Int} {i : Nat} (h : KI K i) (hl : (i : Int) < most) (y : Ky) : has (putK K k x most) y ↔ has K y ∨ y = k :=
  putK_mem (by have := h.le;omega) y
def AllPut (ks : List Ky) (f : Nat → Nat) (K : List (Ky × Int)) (i : Nat) : Prop := KI K i ∧ ∀ y, has K y ↔ ∃ j, j < i ∧ ks[f j]? = some y
theorem AllPut.nil {ks : List Ky} {f : Nat → Nat} : AllPut ks f [] 0 := ⟨KI.nil, fun y => ⟨fun ⟨e, h, _⟩ => by simp at h, fun ⟨j, h, _⟩ => omQ⟩⟩
theorem AllPut.put {ks : List Ky} {f : Nat → Nat} {K : List (Ky × Int)} {i : Nat} {k : Ky} {x most : Int} (h : AllPut ks f K i) (hk : WfK k) (hf : ks[f i]? = some k) (hl : (i : Int) < most) : AllPut ks f (putK K k x most) (i + 1) := by
  refine ⟨h.1.put hk, fun y => ?_⟩;rw [putK_has2 h.1 hl, h.2 y];constructor
  · rintro (⟨j, hj, h1⟩ | rfl)
    · exact ⟨j, omQ, h1⟩
    · exact ⟨i, omQ, hf⟩
  · rintro ⟨j, hj, h1⟩
    by_cases e : j = i
    · subst e;rw [hf] at h1;exact .inr (Option.some.inj h1).symm
    · exact .inl ⟨j, omQ, h1⟩
theorem AllPut.same {ks : List Ky} {t : Nat} {K M : List (Ky × Int)} (h : AllPut ks (fun j => j) K ks.length) (h' : AllPut ks (fun j => (ks.length - 1 - j + t) % ks.length) M ks.length) (y : Ky) : has K y ↔ has M y := by
  rw [h.2 y, h'.2 y];constructor
  · rintro ⟨j, hj, h1⟩
    obtain ⟨i, hi, h2⟩ := turn_onto (t := t) hj;exact ⟨i, hi, (congrArg (fun m => ks[m]?) h2).trans h1⟩
  · rintro ⟨j, hj, h1⟩
    exact ⟨_, Nat.mod_lt _ omQ, h1⟩
theorem take_alike {a b : Ky} : ∀ {n : Nat}, n ≤ 26 → ((dl a).take n = (dl b).take n ↔ ∀ j, j < n → dig a j = dig b j)
  | 0, _ => by simp
  | n + 1, h => by
    rw [dl_take omQ, dl_take omQ];constructor
    · intro e j hj
      obtain ⟨e1, e2⟩ := snoc_inj e;by_cases hjn : j = n
      · subst hjn;exact e2
      · exact (take_alike omQ).1 e1 j omQ
    · intro e
      rw [(take_alike (n := n) omQ).2 fun j hj => e j omQ, e n omQ]
def upto (p : Nat → Bool) : Nat → Nat
  | 0 => 0
  | n + 1 => if upto p n = n ∧ p n = true then n + 1 else upto p n
theorem upto_spec (p : Nat → Bool) : ∀ n, upto p n ≤ n ∧ (∀ j, j < upto p n → p j = true) ∧ (upto p n < n → p (upto p n) = false)
  | 0 => ⟨Nat.le_refl _, fun j h => by simp [upto] at h, fun h => by simp [upto] at h⟩
  | n + 1 => by
    obtain ⟨h1, h2, h3⟩ := upto_spec p n;unfold upto
    split
    · rename_i h
      refine ⟨Nat.le_refl _, fun j hj => ?_, fun h => omQ⟩;by_cases e : j = n
      · subst e;exact h.2
      · exact h2 j omQ
    · rename_i h
      refine ⟨omQ, h2, fun _ => ?_⟩;by_cases e : upto p n = n
      · rw [e]
        cases hp : p n with
        | false => rfl
        | true => exact absurd ⟨e, hp⟩ h
      · exact h3 omQ
def al (a b : Ky) : Nat := upto (fun j => decide (dig a j = dig b j)) 26
section
variable {a b c : Ky}
theorem al_spec : al a b ≤ 26 ∧ (∀ j, j < al a b → dig a j = dig b j) ∧ (al a b < 26 → dig a (al a b) ≠ dig b (al a b)) := by
  have h := upto_spec (fun j => decide (dig a j = dig b j)) 26;unfold al;obtain ⟨m, hm⟩ : ∃ m, upto (fun j => decide (dig a j = dig b j)) 26 = m := ⟨_, rfl⟩;rw [hm] at h ⊢;exact ⟨h.1, fun j hj => of_decide_eq_true (h.2.1 j hj), fun hl => of_decide_eq_false (h.2.2 hl)⟩
theorem al_le : al a b ≤ 26 := al_spec.1
theorem al_eq {j : Nat} (h : j < al a b) : dig a j = dig b j := al_spec.2.1 j h
theorem al_ne (h : al a b < 26) : dig a (al a b) ≠ dig b (al a b) := al_spec.2.2 h
theorem al_uniq {m : Nat} (h : m ≤ 26) (he : ∀ j, j < m → dig a j = dig b j) (hn : m < 26 → dig a m ≠ dig b m) : al a b = m := by
  rcases Nat.lt_trichotomy (al a b) m with h1 | h1 | h1
  · exact absurd (he _ h1) (al_ne omQ)
  · exact h1
  · have := al_le (a := a) (b := b)
    exact absurd (al_eq h1) (hn omQ)
theorem ltK_iff : ltK a b ↔ al a b < 26 ∧ dig a (al a b) < dig b (al a b) := by
  constructor
  · intro h
    have h1 := h.first (d := al a b) al_le fun j hj => al_eq hj;exact ⟨h1.1, h1.2 (al_ne h1.1)⟩
  · rintro ⟨h1, h2⟩
    exact ⟨al a b, (take_alike al_le).2 fun j hj => al_eq hj, _, _, dl_get h1, dl_get h1, h2⟩
theorem ltK.trans (h1 : ltK a b) (h2 : ltK b c) : ltK a c := by
  rw [ltK_iff] at h1 h2;obtain ⟨i1, i2⟩ := h1;obtain ⟨j1, j2⟩ := h2;rcases Nat.lt_trichotomy (al a b) (al b c) with h | h | h
  · have e : al a c = al a b := al_uniq omQ (fun j hj => (al_eq hj).trans (al_eq omQ)) (fun _ => by rw [← al_eq h];omega)
    exact ltK_iff.2 ⟨omQ, by rw [e, ← al_eq h];exact i2⟩
  · have e : al a c = al a b := al_uniq omQ (fun j hj => (al_eq hj).trans (al_eq omQ)) (fun _ => by rw [h] at i2 ⊢;omega)
    exact ltK_iff.2 ⟨omQ, by rw [e];rw [h] at i2 ⊢;omega⟩
  · have e : al a c = al b c := al_uniq omQ (fun j hj => (al_eq omQ).trans (al_eq hj)) (fun _ => by rw [al_eq h];omega)
    exact ltK_iff.2 ⟨omQ, by rw [e, al_eq h];exact j2⟩
end
abbrev k0 : Ky := (0, 0, 0, 0, 0)
def srt (K : List (Ky × Int)) : List Ky := undK' K k0 0
def vals (K : List (Ky × Int)) : List Int := (srt K).map fun k => (findV K k).getD 0
structure Good (K : List (Ky × Int)) : Prop where
  wf : ∀ e ∈ K, WfK e.1
  nd : (K.map Prod.fst).Nodup
section
variable {K : List (Ky × Int)} {k : Ky}
theorem Good.nil : Good [] := ⟨by simp, by simp⟩
theorem Good.snoc (h : Good K) (hk : WfK k) (hn : ¬ has K k) (x : Int) : Good (K ++ [(k, x)]) :=
  have h1 : KI (K ++ [(k, x)]) (K.length + 1) := KI.snoc ⟨Nat.le_refl _, h.nd, h.wf⟩ hk hn
  ⟨h1.wf, h1.nd⟩
theorem Good.put (h : Good K) (hk : WfK k) (x most : Int) : Good (putK K k x most) :=
  have h1 := KI.put (x := x) (most := most) ⟨Nat.le_refl K.length, h.nd, h.wf⟩ hk
  ⟨h1.wf, h1.nd⟩
theorem Good.out (h : Good K) (k : Ky) : Good (outK K k) := ⟨fun e he => h.wf e (List.mem_filter.1 he).1, h.nd.sublist (List.filter_sublist.map _)⟩
end
def trn (k : Ky) : Ky := (k.1, k.2.2.1, k.2.1, k.2.2.2.2, k.2.2.2.1)
theorem trn_trn (k : Ky) : trn (trn k) = k := rfl
theorem trn_inj {a b : Ky} (h : trn a = trn b) : a = b := by rw [← trn_trn a, h, trn_trn]
theorem trn_eq {a b : Ky} : trn a = b ↔ a = trn b := ⟨fun h => by rw [← h];rfl, fun h => by rw [h];rfl⟩
theorem trn_wf {k : Ky} (h : WfK k) : WfK (trn k) := ⟨h.p, h.d, h.s, h.b, h.a⟩
structure Fl where
  s : Nat
  u : Int
  k : Ky
  i : Nat
structure Tb where
  F : List Fl
  A : Ar
abbrev ownK (F : List Fl) : List (Ky × Int) := F.map fun f => (f.k, (f.s : Int))
abbrev bakK (F : List Fl) : List (Ky × Int) := F.map fun f => (trn f.k, (f.s : Int))
structure TF (S n : Nat) (T : Tb) : Prop where
  ok : AOk T.A
  size : T.A.turn.length = S
  at' : ∀ s u, T.A.at s = some u ↔ ∃ f ∈ T.F, (f.s : Int) = s ∧ f.u = u
  nds : (T.F.map Fl.s).Nodup
  wf : ∀ f ∈ T.F, WfK f.k
  lt : ∀ f ∈ T.F, f.i < n
  apart : T.F.Pairwise fun f g => f.k ≠ g.k ∧ trn f.k ≠ g.k
structure TI (S n : Nat) (T : Tb) (K1 K2 : List (Ky × Int)) (L : Nat → List Nat) (ky : List Ky) : Prop where
  tf : TF S n T
  len : ky.length = S
  key : ∀ f ∈ T.F, ky[f.s]? = some f.k
  p1 : K1.Perm (ownK T.F)
  p2 : K2.Perm (bakK T.F)
  ls : ∀ i, i < n → L i = (T.F.filter fun f => decide (f.i = i)).map Fl.s
section
variable {S n : Nat} {T : Tb}
theorem at_tk {A : Ar} {s u : Int} : A.at s = some u ↔ 0 ≤ s ∧ A.tk[s.toNat]? = some true ∧ A.turn[s.toNat]?.getD 0 = u := by
  unfold Ar.at
  split
  · rename_i h;simp [h.1, h.2]
  · rename_i h
    constructor
    · intro e;cases e
    · rintro ⟨a, b, _⟩;exact absurd ⟨a, b⟩ h
theorem TF.slot (h : TF S n T) {f : Fl} (hf : f ∈ T.F) : f.s < S ∧ T.A.tk[f.s]? = some true ∧ T.A.turn[f.s]? = some f.u := by
  have h1 := at_tk.1 ((h.at' f.s f.u).2 ⟨f, hf, rfl, rfl⟩);rw [Int.toNat_natCast] at h1;have h2 := (List.getElem?_eq_some_iff.1 h1.2.1).1;have h3 := h.ok.len;have h4 := h.size;refine ⟨omQ, h1.2.1, ?_⟩;have h5 := h1.2.2;rw [List.getElem?_eq_getElem omQ] at h5 ⊢;exact congrArg some h5
theorem TF.flow (h : TF S n T) {s : Nat} (ht : T.A.tk[s]? = some true) : ∃ f ∈ T.F, f.s = s := by
  obtain ⟨f, hf, h1, _⟩ := (h.at' (s : Int) (T.A.turn[s]?.getD 0)).1 (at_tk.2 ⟨omQ, by rw [Int.toNat_natCast];exact ht, by rw [Int.toNat_natCast]⟩);exact ⟨f, hf, omQ⟩
theorem nodup_map_inj {α β : Type} {g : α → β} : ∀ {l : List α}, (l.map g).Nodup → ∀ {a b : α}, a ∈ l → b ∈ l → g a = g b → a = b
  | [], _, _, _, h, _, _ => by simp at h
  | x :: t, hn, a, b, ha, hb, e => by
    rw [List.map_cons, List.nodup_cons] at hn;rcases List.mem_cons.1 ha with h1 | h1 <;> rcases List.mem_cons.1 hb with h2 | h2
    · rw [h1, h2]
    · exact absurd (List.mem_map.2 ⟨b, h2, by rw [← e, h1]⟩) hn.1
    · exact absurd (List.mem_map.2 ⟨a, h1, by rw [e, h2]⟩) hn.1
    · exact nodup_map_inj hn.2 h1 h2 e
theorem TF.one (h : TF S n T) {f g : Fl} (hf : f ∈ T.F) (hg : g ∈ T.F) (e : f.s = g.s) : f = g := nodup_map_inj h.nds hf hg e
theorem pw_ne {α : Type} {R : α → α → Prop} : ∀ {l : List α}, l.Pairwise R → ∀ {a b : α}, a ∈ l → b ∈ l → a ≠ b → R a b ∨ R b a
  | [], _, _, _, h, _, _ => by simp at h
  | x :: t, hp, a, b, ha, hb, e => by
    rw [List.pairwise_cons] at hp;rcases List.mem_cons.1 ha with h1 | h1 <;> rcases List.mem_cons.1 hb with h2 | h2
    · exact absurd (h1.trans h2.symm) e
    · exact .inl (h1 ▸ hp.1 b h2)
    · exact .inr (h2 ▸ hp.1 a h1)
    · exact pw_ne hp.2 h1 h2 e
theorem TF.far (h : TF S n T) {f g : Fl} (hf : f ∈ T.F) (hg : g ∈ T.F) (e : f.k = g.k ∨ trn f.k = g.k) : f = g := by
  rcases Classical.em (f = g) with h1 | h1
  · exact h1
  · exfalso
    rcases pw_ne h.apart hf hg h1 with h2 | h2
    · rcases e with e | e
      · exact h2.1 e
      · exact h2.2 e
    · rcases e with e | e
      · exact h2.1 e.symm
      · exact h2.2 (trn_eq.2 e.symm)
theorem nodup_of_inj {α β : Type} {g : α → β} : ∀ {l : List α}, l.Nodup → (∀ a ∈ l, ∀ b ∈ l, g a = g b → a = b) → (l.map g).Nodup
  | [], _, _ => by simp
  | x :: t, hn, h => by
    rw [List.nodup_cons] at hn;rw [List.map_cons, List.nodup_cons];refine ⟨fun hm => ?_, nodup_of_inj hn.2 fun a ha b hb => h a (List.mem_cons_of_mem _ ha) b (List.mem_cons_of_mem _ hb)⟩;obtain ⟨y, hy, e⟩ := List.mem_map.1 hm;have := h y (List.mem_cons_of_mem _ hy) x List.mem_cons_self e;subst this;exact hn.1 hy
theorem TF.nd (h : TF S n T) : T.F.Nodup := by
  have := h.nds;rw [List.Nodup, List.pairwise_map] at this;exact this.imp fun h e => h (by rw [e])
theorem TF.own (h : TF S n T) : Good (ownK T.F) := by
  refine ⟨fun e he => ?_, ?_⟩
  · obtain ⟨f, hf, rfl⟩ := List.mem_map.1 he
    exact h.wf f hf
  · rw [List.map_map]
    exact nodup_of_inj h.nd fun a ha b hb e => h.far ha hb (.inl e)
theorem TF.bak (h : TF S n T) : Good (bakK T.F) := by
  refine ⟨fun e he => ?_, ?_⟩
  · obtain ⟨f, hf, rfl⟩ := List.mem_map.1 he
    exact trn_wf (h.wf f hf)
  · rw [List.map_map]
    exact nodup_of_inj h.nd fun a ha b hb e => h.far ha hb (.inl (trn_inj e))
theorem Good.perm {K M : List (Ky × Int)} (h : Good M) (p : K.Perm M) : Good K := ⟨fun e he => h.wf e (p.mem_iff.1 he), (p.map Prod.fst).nodup_iff.2 h.nd⟩
theorem has_perm {K M : List (Ky × Int)} (p : K.Perm M) {k : Ky} : has K k ↔ has M k := ⟨fun ⟨e, he, h⟩ => ⟨e, p.mem_iff.1 he, h⟩, fun ⟨e, he, h⟩ => ⟨e, p.mem_iff.2 he, h⟩⟩
theorem und_perm {K M : List (Ky × Int)} (h : Good M) (p : K.Perm M) (k : Ky) (n : Int) : undK' K k n = undK' M k n := undK_same (h.perm p).wf h.wf fun y => has_perm p
def fndK (F : List Fl) (k : Ky) : Option Fl := F.find? fun f => decide (f.k = k ∨ trn f.k = k)
theorem fndK_none {F : List Fl} {k : Ky} : fndK F k = none ↔ ∀ f ∈ F, f.k ≠ k ∧ trn f.k ≠ k := by
  unfold fndK;rw [List.find?_eq_none];constructor
  · intro h f hf;have := h f hf;simpa using this
  · intro h f hf;simpa using h f hf
theorem own_has {F : List Fl} {k : Ky} : has (ownK F) k ↔ ∃ f ∈ F, f.k = k := by
  constructor
  · rintro ⟨e, he, h⟩
    obtain ⟨f, hf, rfl⟩ := List.mem_map.1 he;exact ⟨f, hf, h⟩
  · rintro ⟨f, hf, h⟩
    exact ⟨_, List.mem_map.2 ⟨f, hf, rfl⟩, h⟩
theorem bak_has {F : List Fl} {k : Ky} : has (bakK F) k ↔ ∃ f ∈ F, trn f.k = k := by
  constructor
  · rintro ⟨e, he, h⟩
    obtain ⟨f, hf, rfl⟩ := List.mem_map.1 he;exact ⟨f, hf, h⟩
  · rintro ⟨f, hf, h⟩
    exact ⟨_, List.mem_map.2 ⟨f, hf, rfl⟩, h⟩
abbrev Tb.out (T : Tb) (s : Nat) : Tb := { F := T.F.filter fun f => decide (f.s ≠ s), A := T.A.give s }
abbrev Tb.move (T : Tb) (f : Fl) (i : Nat) : Tb := { F := (T.F.filter fun g => decide (g.s ≠ f.s)) ++ [{ f with i := i }], A := T.A }
theorem AOk.take {A : Ar} (h : AOk A) {i : Nat} {fs : List Nat} (e : A.free = i :: fs) : AOk A.take := by
  have hnd := h.nodup;rw [e, List.nodup_cons] at hnd;have hi : i < A.tk.length := (List.getElem?_eq_some_iff.1 ((h.free i).1 (by rw [e];exact List.mem_cons_self))).1;have hf : A.take.free = fs := by simp [Ar.take, e]
  have ht : A.take.tk = A.tk.set i true := by simp [Ar.take, e]
  have hu : A.take.turn = A.turn := by simp [Ar.take, e]
  refine ⟨?_, by rw [hu];exact h.pos, by rw [hf];exact hnd.2, ?_⟩
  · rw [ht, hu, List.length_set];exact h.len
  · intro j
    rw [hf, ht];by_cases hij : i = j
    · subst hij
      rw [List.getElem?_set_self hi];constructor
      · intro h';exact absurd h' hnd.1
      · intro h';simp at h'
    · rw [List.getElem?_set_ne hij, ← h.free j, e, List.mem_cons]
      constructor
      · intro h';exact .inr h'
      · rintro (h' | h')
        · exact absurd h'.symm hij
        · exact h'
theorem AOk.give {A : Ar} (h : AOk A) {i : Nat} (ht : A.tk[i]? = some true) : AOk (A.give i) := by
  have hi : i < A.tk.length := (List.getElem?_eq_some_iff.1 ht).1;have hni : i ∉ A.free := fun hm => by rw [h.free i, ht] at hm;simp at hm
  refine ⟨?_, ?_, ?_, ?_⟩
  · simp [Ar.give, h.len]
  · simp [Ar.give, h.pos]
  · simp only [Ar.give, List.nodup_cons];exact ⟨hni, h.nodup⟩
  · intro j
    simp only [Ar.give, List.mem_cons];by_cases hij : i = j
    · subst hij;rw [List.getElem?_set_self hi];simp
    · rw [List.getElem?_set_ne hij, ← h.free j]
      constructor
      · rintro (h' | h')
        · exact absurd h'.symm hij
        · exact h'
      · intro h';exact .inr h'
theorem TF.free (h : TF S n T) {s : Nat} (hs : s ∈ T.A.free) : s < S ∧ ∀ f ∈ T.F, f.s ≠ s := by
  have h1 := (h.ok.free s).1 hs;have h2 := (List.getElem?_eq_some_iff.1 h1).1;have h3 := h.ok.len;have h4 := h.size;refine ⟨omQ, fun f hf e => ?_⟩;have := (h.slot hf).2.1;rw [e, h1] at this;cases this
theorem TF.add (h : TF S n T) {s : Nat} {fs : List Nat} {k : Ky} {i : Nat} (e : T.A.free = s :: fs) (hk : WfK k) (hi : i < n) (hn : fndK T.F k = none) : TF S n { F := T.F ++ [⟨s, T.A.turn[s]?.getD 0, k, i⟩], A := T.A.take } := by
  obtain ⟨hs, hne⟩ := h.free (s := s) (by rw [e];exact List.mem_cons_self);have hn' := fndK_none.1 hn;have ht : T.A.take.tk = T.A.tk.set s true := by simp [Ar.take, e]
  have hu : T.A.take.turn = T.A.turn := by simp [Ar.take, e]
  have hl := h.ok.len;have hsz := h.size;refine ⟨h.ok.take e, by rw [hu];exact hsz, fun s' u' => ?_, ?_, ?_, ?_, ?_⟩
  · rw [at_tk, ht, hu]
    constructor
    · rintro ⟨h1, h2, h3⟩
      by_cases hss : s = s'.toNat
      · exact ⟨_, List.mem_append.2 (.inr List.mem_cons_self), by dsimp only;omega, by dsimp only;rw [hss];exact h3⟩
      · rw [List.getElem?_set_ne hss] at h2
        obtain ⟨f, hf, h4⟩ := (h.at' s' u').1 (at_tk.2 ⟨h1, h2, h3⟩);exact ⟨f, List.mem_append.2 (.inl hf), h4⟩
    · rintro ⟨f, hf, h1, h2⟩
      rcases List.mem_append.1 hf with hf | hf
      · have h3 := at_tk.1 ((h.at' s' u').2 ⟨f, hf, h1, h2⟩)
        refine ⟨h3.1, ?_, h3.2.2⟩;rw [List.getElem?_set_ne (fun e2 => hne f hf omQ)];exact h3.2.1
      · simp only [List.mem_singleton] at hf;subst hf
        dsimp only at h1 h2;subst h1;rw [Int.toNat_natCast];exact ⟨omQ, List.getElem?_set_self omQ, h2⟩
  · rw [List.map_append, List.nodup_append]
    refine ⟨h.nds, by simp, fun a ha b hb e2 => ?_⟩;simp only [List.map_cons, List.map_nil, List.mem_singleton] at hb;obtain ⟨f, hf, h9⟩ := List.mem_map.1 ha;exact hne f hf omQ
  · intro f hf
    rcases List.mem_append.1 hf with hf | hf
    · exact h.wf f hf
    · simp only [List.mem_singleton] at hf;subst hf;exact hk
  · intro f hf
    rcases List.mem_append.1 hf with hf | hf
    · exact h.lt f hf
    · simp only [List.mem_singleton] at hf;subst hf;exact hi
  · rw [List.pairwise_append]
    refine ⟨h.apart, by simp, fun a ha b hb => ?_⟩;simp only [List.mem_singleton] at hb;subst hb;exact hn' a ha
theorem TF.out (h : TF S n T) {f : Fl} (hf : f ∈ T.F) : TF S n (T.out f.s) := by
  obtain ⟨hs, ht, hu⟩ := h.slot hf;have hl := h.ok.len;have hsz := h.size;refine ⟨h.ok.give ht, by simp [Tb.out, Ar.give, hsz], fun s' u' => ?_, h.nds.sublist (List.filter_sublist.map _), fun g hg => h.wf g (List.mem_filter.1 hg).1, fun g hg => h.lt g (List.mem_filter.1 hg).1, h.apart.sublist List.filter_sublist⟩;rw [at_tk];simp only [Tb.out, Ar.give];constructor
  · rintro ⟨h1, h2, h3⟩
    by_cases hss : f.s = s'.toNat
    · rw [← hss, List.getElem?_set_self omQ] at h2;cases h2
    · rw [List.getElem?_set_ne hss] at h2 h3
      obtain ⟨g, hg, h4⟩ := (h.at' s' u').1 (at_tk.2 ⟨h1, h2, h3⟩);exact ⟨g, List.mem_filter.2 ⟨hg, decide_eq_true omQ⟩, h4⟩
  · rintro ⟨g, hg, h1, h2⟩
    obtain ⟨hg1, hg2⟩ := List.mem_filter.1 hg;have hg3 := of_decide_eq_true hg2;have h3 := at_tk.1 ((h.at' s' u').2 ⟨g, hg1, h1, h2⟩);refine ⟨h3.1, ?_, ?_⟩
    · rw [List.getElem?_set_ne omQ];exact h3.2.1
    · rw [List.getElem?_set_ne omQ];exact h3.2.2
theorem perm_move {F : List Fl} (hn : (F.map Fl.s).Nodup) {f : Fl} (hf : f ∈ F) : F.Perm ((F.filter fun g => decide (g.s ≠ f.s)) ++ [f]) := by
  obtain ⟨a, b, rfl⟩ := List.append_of_mem hf;have h1 : ∀ g ∈ a ++ b, g.s ≠ f.s := fun g hg e => by
    rw [List.map_append, List.map_cons, List.nodup_append, List.nodup_cons] at hn;rcases List.mem_append.1 hg with hg | hg
    · exact hn.2.2 g.s (List.mem_map.2 ⟨g, hg, rfl⟩) f.s List.mem_cons_self e
    · exact hn.2.1.1 (e ▸ List.mem_map.2 ⟨g, hg, rfl⟩)
  have h2 : (a ++ f :: b).filter (fun g => decide (g.s ≠ f.s)) = a ++ b := by
    rw [List.filter_append, List.filter_cons, if_neg (by simp)];rw [← List.filter_append, List.filter_eq_self];intro g hg;exact decide_eq_true (h1 g hg)
  rw [h2, List.append_assoc];refine List.Perm.append_left a ?_;exact (List.perm_append_singleton f b).symm
theorem TF.move (h : TF S n T) {f : Fl} (hf : f ∈ T.F) {i : Nat} (hi : i < n) : TF S n (T.move f i) := by
  have hp := perm_move h.nds hf;have key : ∀ g, g ∈ (T.move f i).F → ∃ g' ∈ T.F, g'.s = g.s ∧ g'.u = g.u ∧ g'.k = g.k := fun g hg => by
    rcases List.mem_append.1 hg with hg | hg
    · exact ⟨g, (List.mem_filter.1 hg).1, rfl, rfl, rfl⟩
    · simp only [List.mem_singleton] at hg;subst hg;exact ⟨f, hf, rfl, rfl, rfl⟩
  refine ⟨h.ok, h.size, fun s' u' => ?_, ?_, ?_, ?_, ?_⟩
  · rw [show (T.move f i).A = T.A from rfl, h.at' s' u']
    constructor
    · rintro ⟨g, hg, h1, h2⟩
      rcases List.mem_append.1 (hp.mem_iff.1 hg) with h3 | h3
      · exact ⟨g, List.mem_append.2 (.inl h3), h1, h2⟩
      · simp only [List.mem_singleton] at h3;subst h3
        exact ⟨_, List.mem_append.2 (.inr List.mem_cons_self), h1, h2⟩
    · rintro ⟨g, hg, h1, h2⟩
      obtain ⟨g', hg', e1, e2, _⟩ := key g hg;exact ⟨g', hg', omQ, by rw [e2, h2]⟩
  · have h1 : ((T.move f i).F.map Fl.s) = ((T.F.filter fun g : Fl => decide (g.s ≠ f.s)) ++ [f]).map Fl.s := by simp [Tb.move]
    rw [h1];exact (hp.map Fl.s).nodup_iff.1 h.nds
  · intro g hg
    obtain ⟨g', hg', _, _, e⟩ := key g hg;rw [← e];exact h.wf g' hg'
  · intro g hg
    rcases List.mem_append.1 hg with hg | hg
    · exact h.lt g (List.mem_filter.1 hg).1
    · simp only [List.mem_singleton] at hg;subst hg;exact hi
  · show ((T.F.filter fun g : Fl => decide (g.s ≠ f.s)) ++ [({ f with i := i } : Fl)]).Pairwise _
    rw [List.pairwise_append];refine ⟨h.apart.sublist List.filter_sublist, by simp, fun a ha b hb => ?_⟩;simp only [List.mem_singleton] at hb;subst hb;obtain ⟨ha1, ha2⟩ := List.mem_filter.1 ha;have ha3 := of_decide_eq_true ha2;refine ⟨fun e => ha3 ?_, fun e => ha3 ?_⟩
    · exact congrArg Fl.s (h.far ha1 hf (.inl e))
    · exact congrArg Fl.s (h.far ha1 hf (.inr e))
end
section
variable {S n : Nat} {T : Tb}
theorem TF.len (h : TF S n T) : T.F.length ≤ S := by
  have h1 := nodup_len (n := S) h.nds fun x hx => by
    obtain ⟨f, hf, rfl⟩ := List.mem_map.1 hx;exact (h.slot hf).1
  rwa [List.length_map] at h1
theorem TF.room (h : TF S n T) {s : Nat} (hs : s ∈ T.A.free) : T.F.length < S := by
  obtain ⟨h1, h2⟩ := h.free hs;have h3 := nodup_len (n := S) (l := s :: T.F.map Fl.s) (by
    rw [List.nodup_cons];exact ⟨fun hm => by obtain ⟨f, hf, e⟩ := List.mem_map.1 hm;exact h2 f hf e, h.nds⟩) fun x hx => by
    rcases List.mem_cons.1 hx with rfl | hx
    · exact h1
    · obtain ⟨f, hf, rfl⟩ := List.mem_map.1 hx
      exact (h.slot hf).1
  rw [List.length_cons, List.length_map] at h3;exact h3
theorem cnt_eq : ∀ (bs : List Bool), cnt bs = (((List.range bs.length).filter fun i => decide (bs[i]? = some true)).length : Int)
  | [] => rfl
  | b :: bs => by
    have ih := cnt_eq bs;rw [cnt, ih, List.length_cons, List.range_succ_eq_map, List.filter_cons, List.filter_map];have e : ((fun i => decide ((b :: bs)[i]? = some true)) ∘ Nat.succ) = fun i => decide (bs[i]? = some true) := by
      funext i;simp
    rw [e];cases b <;> simp <;> omega
theorem TF.cnt (h : TF S n T) : Sx.cnt T.A.tk = (T.F.length : Int) := by
  rw [cnt_eq];congr 1;have hl := h.ok.len;have hs := h.size;have e1 : ∀ x, x ∈ (List.range T.A.tk.length).filter (fun i => decide (T.A.tk[i]? = some true)) ↔ x ∈ T.F.map Fl.s := fun x => by
    rw [List.mem_filter, List.mem_range, List.mem_map, decide_eq_true_iff];constructor
    · rintro ⟨_, h1⟩;obtain ⟨f, hf, e⟩ := h.flow h1;exact ⟨f, hf, e⟩
    · rintro ⟨f, hf, rfl⟩
      have := h.slot hf;exact ⟨omQ, this.2.1⟩
  have h1 := nodup_le2 (l2 := T.F.map Fl.s) ((List.nodup_range (n := T.A.tk.length)).filter (fun i => decide (T.A.tk[i]? = some true))) fun x hx => (e1 x).1 hx;have h2 := nodup_le2 (l2 := (List.range T.A.tk.length).filter fun i => decide (T.A.tk[i]? = some true)) h.nds fun x hx => (e1 x).2 hx;rw [List.length_map] at h1 h2;omega
variable {K1 K2 : List (Ky × Int)} {L : Nat → List Nat} {ky : List Ky}
theorem TI.g1 (h : TI S n T K1 K2 L ky) : Good K1 := h.tf.own.perm h.p1
theorem TI.g2 (h : TI S n T K1 K2 L ky) : Good K2 := h.tf.bak.perm h.p2
theorem TI.l1 (h : TI S n T K1 K2 L ky) : K1.length = T.F.length := by rw [h.p1.length_eq, List.length_map]
theorem TI.l2 (h : TI S n T K1 K2 L ky) : K2.length = T.F.length := by rw [h.p2.length_eq, List.length_map]
theorem TI.no1 (h : TI S n T K1 K2 L ky) {k : Ky} (hn : fndK T.F k = none) : ¬ has K1 k := fun hh => by
  obtain ⟨f, hf, e⟩ := own_has.1 ((has_perm h.p1).1 hh);exact (fndK_none.1 hn f hf).1 e
theorem TI.no2 (h : TI S n T K1 K2 L ky) {k : Ky} (hn : fndK T.F k = none) : ¬ has K2 (trn k) := fun hh => by
  obtain ⟨f, hf, e⟩ := bak_has.1 ((has_perm h.p2).1 hh);exact (fndK_none.1 hn f hf).1 (trn_inj e)
theorem TI.inL (h : TI S n T K1 K2 L ky) {i s : Nat} (hi : i < n) : s ∈ L i ↔ ∃ f ∈ T.F, f.i = i ∧ f.s = s := by
  rw [h.ls i hi, List.mem_map];constructor
  · rintro ⟨f, hf, e⟩
    obtain ⟨h1, h2⟩ := List.mem_filter.1 hf;exact ⟨f, h1, of_decide_eq_true h2, e⟩
  · rintro ⟨f, hf, h1, e⟩
    exact ⟨f, List.mem_filter.2 ⟨hf, decide_eq_true h1⟩, e⟩
theorem TI.ofL (h : TI S n T K1 K2 L ky) (hw : WL S n L) {f : Fl} (hf : f ∈ T.F) : Sx.ofL n L f.s = some f.i := hw.ofL (h.tf.lt f hf) ((h.inL (h.tf.lt f hf)).2 ⟨f, hf, rfl, rfl⟩)
theorem TI.ofNo (h : TI S n T K1 K2 L ky) {s : Nat} (hs : ∀ f ∈ T.F, f.s ≠ s) : Sx.ofL n L s = none := ofL_none.2 fun i hi hm => by
  obtain ⟨f, hf, _, e⟩ := (h.inL hi).1 hm;exact hs f hf e
theorem erase_map {l : List Fl} (hn : (l.map Fl.s).Nodup) (x : Nat) : (l.map Fl.s).erase x = (l.filter fun g => decide (g.s ≠ x)).map Fl.s := by
  rw [hn.erase_eq_filter, List.filter_map];congr 1;refine List.filter_congr fun g _ => ?_;by_cases e : g.s = x <;> simp [e]
theorem nds_filter {F : List Fl} (h : (F.map Fl.s).Nodup) (p : Fl → Bool) : ((F.filter p).map Fl.s).Nodup := h.sublist (List.filter_sublist.map _)
theorem TI.lsOut (h : TI S n T K1 K2 L ky) {f : Fl} (hf : f ∈ T.F) {i : Nat} (hi : i < n) : upd L f.i ((L f.i).erase f.s) i = ((T.F.filter fun g => decide (g.s ≠ f.s)).filter fun g => decide (g.i = i)).map Fl.s := by
  have hc : (T.F.filter fun g => decide (g.s ≠ f.s)).filter (fun g => decide (g.i = i)) = (T.F.filter fun g => decide (g.i = i)).filter (fun g => decide (g.s ≠ f.s)) := by
    rw [List.filter_filter, List.filter_filter];refine List.filter_congr fun g _ => ?_;rw [Bool.and_comm]
  rw [hc, ← erase_map (nds_filter h.tf.nds _)];by_cases e : i = f.i
  · subst e
    rw [upd_eq, h.ls _ hi]
  · rw [upd_ne e, h.ls i hi, List.erase_of_not_mem]
    intro hm;obtain ⟨g, hg, e2⟩ := List.mem_map.1 hm;obtain ⟨h1, h2⟩ := List.mem_filter.1 hg;have := h.tf.one h1 hf e2;subst this;exact e (of_decide_eq_true h2).symm
theorem TI.add (h : TI S n T K1 K2 L ky) (hS : S ≤ 4096) {s : Nat} {fs : List Nat} {k : Ky} {i : Nat} (e : T.A.free = s :: fs) (hk : WfK k) (hi : i < n) (hn : fndK T.F k = none) :
    TI S n { F := T.F ++ [⟨s, T.A.turn[s]?.getD 0, k, i⟩], A := T.A.take } (putK K1 k (s : Int) (S : Int)) (putK K2 (trn k) (s : Int) (S : Int)) (addS S n L 1 (i : Int) (s : Int)) (ky.set s k) := by
  have hsf : s ∈ T.A.free := by rw [e];exact List.mem_cons_self
  obtain ⟨hs, hne⟩ := h.tf.free hsf;have hr := h.tf.room hsf;have hl := h.len;refine ⟨h.tf.add e hk hi hn, by rw [List.length_set];exact hl, fun f hf => ?_, ?_, ?_, fun j hj => ?_⟩
  · rcases List.mem_append.1 hf with hf | hf
    · rw [List.getElem?_set_ne (fun e2 => hne f hf e2.symm)];exact h.key f hf
    · simp only [List.mem_singleton] at hf;subst hf
      exact List.getElem?_set_self omQ
  · rw [putK_new (h.no1 hn) (by rw [h.l1];omega)]
    show (K1 ++ [(k, (s : Int))]).Perm (List.map _ (T.F ++ [_]));rw [List.map_append];exact h.p1.append_right _
  · rw [putK_new (h.no2 hn) (by rw [h.l2];omega)]
    show (K2 ++ [(trn k, (s : Int))]).Perm (List.map _ (T.F ++ [_]));rw [List.map_append];exact h.p2.append_right _
  · rw [addS_new hi hs (h.ofNo hne), List.filter_append, List.map_append, List.filter_cons, List.filter_nil, ← h.ls j hj]
    by_cases hij : i = j
    · subst hij
      rw [upd_eq, if_pos (decide_eq_true rfl)];rfl
    · rw [upd_ne (fun e2 => hij e2.symm), if_neg (by simpa using hij)];simp
theorem out_own {F : List Fl} {f : Fl} {g : Fl → Ky} (hinj : ∀ a ∈ F, g a = g f → a.s = f.s) (hinj2 : ∀ a ∈ F, a.s = f.s → g a = g f) : outK (F.map fun a => (g a, (a.s : Int))) (g f) = (F.filter fun a => decide (a.s ≠ f.s)).map fun a => (g a, (a.s : Int)) := by
  unfold outK;rw [List.filter_map];congr 1;refine List.filter_congr fun a ha => ?_;by_cases e : a.s = f.s
  · have := hinj2 a ha e
    simp [e, this]
  · have : ¬ g a = g f := fun e2 => e (hinj a ha e2)
    simp [e, this]
theorem TI.out (h : TI S n T K1 K2 L ky) {f : Fl} (hf : f ∈ T.F) (hw : WL S n L) : TI S n (T.out f.s) (outK K1 f.k) (outK K2 (trn f.k)) (outS S n L (f.s : Int)) ky := by
  have hs := (h.tf.slot hf).1;refine ⟨h.tf.out hf, h.len, fun g hg => h.key g (List.mem_filter.1 hg).1, ?_, ?_, fun j hj => ?_⟩
  · have h1 : (outK K1 f.k).Perm (outK (ownK T.F) f.k) := h.p1.filter _
    rw [out_own (g := fun a => a.k) (fun a ha e => congrArg Fl.s (h.tf.far ha hf (.inl e))) (fun a ha e => congrArg Fl.k (h.tf.one ha hf e))] at h1;exact h1
  · have h1 : (outK K2 (trn f.k)).Perm (outK (bakK T.F) (trn f.k)) := h.p2.filter _
    rw [out_own (g := fun a => trn a.k) (fun a ha e => congrArg Fl.s (h.tf.far ha hf (.inl (trn_inj e)))) (fun a ha e => congrArg (fun x => trn x.k) (h.tf.one ha hf e))] at h1;exact h1
  · rw [outS_has hs (h.ofL hw hf)]
    exact h.lsOut hf hj
theorem TI.move (h : TI S n T K1 K2 L ky) {f : Fl} (hf : f ∈ T.F) (hw : WL S n L) {i : Nat} (hi : i < n) :
    addE S n (outS S n L (f.s : Int)) (i : Int) (f.s : Int) = 0 ∧ TI S n (T.move f i) K1 K2 (addS S n (outS S n L (f.s : Int)) 1 (i : Int) (f.s : Int)) ky := by
  have hs := (h.tf.slot hf).1;have hp := perm_move h.tf.nds hf;rw [outS_has hs (h.ofL hw hf)];have hno : Sx.ofL n (upd L f.i ((L f.i).erase f.s)) f.s = none := ofL_none.2 fun j hj hm => by
    rw [h.lsOut hf hj] at hm;obtain ⟨g, hg, e⟩ := List.mem_map.1 hm;exact of_decide_eq_true (List.mem_filter.1 (List.mem_filter.1 hg).1).2 e
  refine ⟨addE_new hi hs hno, h.tf.move hf hi, h.len, fun g hg => ?_, ?_, ?_, fun j hj => ?_⟩
  · rcases List.mem_append.1 hg with hg | hg
    · exact h.key g (List.mem_filter.1 hg).1
    · simp only [List.mem_singleton] at hg;subst hg;exact h.key f hf
  · refine h.p1.trans ?_
    have := hp.map (fun a : Fl => (a.k, (a.s : Int)));simpa [Tb.move] using this
  · refine h.p2.trans ?_
    have := hp.map (fun a : Fl => (trn a.k, (a.s : Int)));simpa [Tb.move] using this
  · rw [addS_new hi hs hno]
    show _ = (((T.F.filter fun g : Fl => decide (g.s ≠ f.s)) ++ [({ f with i := i } : Fl)]).filter fun g => decide (g.i = j)).map Fl.s;rw [List.filter_append, List.map_append, List.filter_cons, List.filter_nil, ← h.lsOut hf hj];by_cases hij : i = j
    · subst hij
      rw [upd_eq, if_pos (decide_eq_true rfl)];rfl
    · rw [upd_ne (fun e2 => hij e2.symm), if_neg (by simpa using hij)];simp
end
section
variable {S n : Nat} {T : Tb} {K1 K2 : List (Ky × Int)} {L : Nat → List Nat} {ky : List Ky}
def inF (F : List Fl) (i : Int) : List Fl := F.filter fun f => decide ((f.i : Int) = i)
theorem inF_nat (F : List Fl) (i : Nat) : inF F (i : Int) = F.filter fun f => decide (f.i = i) := by
  unfold inF;refine List.filter_congr fun f _ => ?_;by_cases e : f.i = i
  · simp [e]
  · have : ¬ ((f.i : Int) = (i : Int)) := omQ
    simp [e, this]
theorem TF.inOff (h : TF S n T) {i : Int} (hi : ¬ (0 ≤ i ∧ i < n)) : inF T.F i = [] := by
  unfold inF;rw [List.filter_eq_nil_iff];intro f hf;have := h.lt f hf;simp only [decide_eq_true_eq];omega
theorem TI.all (h : TI S n T K1 K2 L ky) (i : Int) : allS n L i = (inF T.F i).map Fl.s := by
  unfold allS;by_cases hi : 0 ≤ i ∧ i < n
  · rw [if_pos hi]
    obtain ⟨j, rfl⟩ : ∃ j : Nat, i = j := ⟨i.toNat, omQ⟩;rw [Int.toNat_natCast, h.ls j omQ, inF_nat]
  · rw [if_neg hi, h.tf.inOff hi];rfl
theorem TI.fst (h : TI S n T K1 K2 L ky) (i : Int) : endS n L 0 i = (inF T.F i).head?.map Fl.s := by
  unfold endS;by_cases hi : 0 ≤ i ∧ i < n
  · rw [if_pos hi]
    obtain ⟨j, rfl⟩ : ∃ j : Nat, i = j := ⟨i.toNat, omQ⟩;rw [Int.toNat_natCast, show dirL 0 (L j) = L j from rfl, h.ls j omQ, inF_nat, List.head?_map]
  · rw [if_neg hi, h.tf.inOff hi];rfl
theorem TI.srt (h : TI S n T K1 K2 L ky) : undK' K1 (0, 0, 0, 0, 0) 0 = Sx.srt (ownK T.F) := und_perm h.tf.own h.p1 _ _
theorem Ar.top_eq {A : Ar} {s : Nat} {fs : List Nat} (e : A.free = s :: fs) : A.top = ((s : Int), A.turn[s]?.getD 0, 0) := by unfold Ar.top;split <;> simp_all
end
end Go.Proofs.YtkhdejjompbklaaGreat.Sx
