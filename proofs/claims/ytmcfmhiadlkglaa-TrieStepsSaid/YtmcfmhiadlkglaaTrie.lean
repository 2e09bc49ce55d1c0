/-
  Tries in memory: nodes, the free ones; what a trie's nodes say of the beginnings of its keys. Nothing of a program stands here.
-/
import Derived.Test.YtmcfmhiadlkglaaKey
import Derived.Test.YtmcfmhiadlkglaaInts
namespace Go.Proofs.Ytmcfmhiadlkglaa.Sx
open Go
set_option linter.unusedVariables false
/-- A node: how many keys, what follows, the value. -/
abbrev Nd := Int × (Nat → Int) × Int
def eN (r : Nd) : List Value := .int .i64 r.1 :: ((List.range 16).map (fun j => .int .i64 (r.2.1 j)) ++ [.int .i64 r.2.2])
theorem eN_len (r : Nd) : (eN r).length = 18 := by simp [eN]
theorem eN_get {r : Nd} {d : Nat} (h : d < 16) : (eN r)[1 + d]? = some (.int .i64 (r.2.1 d)) := by
  unfold eN
  rw [Nat.add_comm, List.getElem?_cons_succ, List.getElem?_append_left (by simpa using h), List.getElem?_map, List.getElem?_range h]; rfl
def updN (g : Nat → Int) (d : Nat) (v : Int) : Nat → Int := fun j => if j = d then v else g j
theorem lay_next {r : Nd} {d : Nat} (h : d < 16) (v : Int) : lay (eN r) (1 + d) [.int .i64 v] = eN (r.1, updN r.2.1 d v, r.2.2) := by
  simp only [lay, eN]
  rw [Nat.add_comm, List.set_cons_succ, List.set_append_left _ _ (by simpa using h)]
  congr 2
  apply List.ext_getElem
  · simp
  · intro i h1 h2
    simp only [List.length_set, List.length_map, List.length_range] at h1
    simp only [List.getElem_set, List.getElem_map, List.getElem_range, updN]
    by_cases e : d = i
    · subst e; simp
    · rw [if_neg e, if_neg (fun e' => e e'.symm)]
theorem lay_cnt {r : Nd} (v : Int) : lay (eN r) 0 [.int .i64 v] = eN (v, r.2.1, r.2.2) := rfl
theorem lay_val {r : Nd} (v : Int) : lay (eN r) 17 [.int .i64 v] = eN (r.1, r.2.1, v) := by
  simp [lay, eN, List.range_succ]
def z0 : Nd := (0, fun _ => 0, 0)
structure Tr where
  nodes : List Nd
  free : List Nat
  most : Int
abbrev Tr.frees (T : Tr) : List Int := T.free.map fun i : Nat => (i : Int)
abbrev TrX := (Option Addr × Nat) × (Option Addr × Nat)
abbrev trieL (TA TN TI b : Nat) (T : Tr) (p : TrX) : List HP :=
  [blk b [.slice p.1.1 T.nodes.length p.1.2, .slice p.2.1 T.frees.length p.2.2, .int .i64 T.most] TA, sls p.1.1 T.nodes.length p.1.2 TN 18 (T.nodes.flatMap eN), sls p.2.1 T.frees.length p.2.2 TI 1 (T.frees.flatMap e1)]
def trieT (TA TN TI b : Nat) (T : Tr) : HP := box (fun _ : TrX => True) (trieL TA TN TI b T)
theorem Sep.trieE {TA TN TI b : Nat} {T : Tr} {l : List HP} {w : World} (h : Sep (trieT TA TN TI b T :: l) w) :
    ∃ r1 c1 r2 c2, Sep (blk b [.slice r1 T.nodes.length c1, .slice r2 T.frees.length c2, .int .i64 T.most] TA :: sls r1 T.nodes.length c1 TN 18 (T.nodes.flatMap eN) :: sls r2 T.frees.length c2 TI 1 (T.frees.flatMap e1) :: l) w :=
  let ⟨p, _, h2⟩ := h.boxE
  ⟨p.1.1, p.1.2, p.2.1, p.2.2, h2⟩
theorem Sep.trieI {TA TN TI b n1 n2 : Nat} {T : Tr} {r1 r2 : Option Addr} {c1 c2 : Nat} {l : List HP} {w : World} (h1 : n1 = T.nodes.length) (h2 : n2 = T.frees.length)
    (h : Sep (blk b [.slice r1 n1 c1, .slice r2 n2 c2, .int .i64 T.most] TA :: sls r1 n1 c1 TN 18 (T.nodes.flatMap eN) :: sls r2 n2 c2 TI 1 (T.frees.flatMap e1) :: l) w) : Sep (trieT TA TN TI b T :: l) w := by
  subst h1 h2
  exact Sep.boxI ((r1, c1), (r2, c2)) trivial h
/-! ### what the nodes say -/
structure WFD (ns : List Nd) (D : List Int → Prop) (c : List Int → Nat) (v : List Int → Int) (f : List Int → Nat) : Prop where
  root : f [] = 0
  droot : D []
  lt : ∀ p, D p → f p < ns.length
  inj : ∀ p q, D p → D q → f p = f q → p = q
  cnt : ∀ p nd, D p → ns[f p]? = some nd → nd.1 = c p
  nxt : ∀ p nd (d : Int), D p → ns[f p]? = some nd → p.length < 26 → 0 ≤ d → d < 16 → nd.2.1 d.toNat = if 0 < c (p ++ [d]) then (f (p ++ [d]) : Int) else 0
  val : ∀ p nd, D p → p.length = 26 → ns[f p]? = some nd → nd.2.2 = v p
  up : ∀ p, 0 < c p → D p
/-- How many of the first m beginnings there are, one after the other. -/
def dep (c : List Int → Nat) (ds : List Int) : Nat → Nat
  | 0 => 0
  | m + 1 => if dep c ds m = m ∧ 0 < c (ds.take (m + 1)) then m + 1 else dep c ds m
theorem dep_le (c : List Int → Nat) (ds : List Int) : ∀ m, dep c ds m ≤ m
  | 0 => Nat.le_refl _
  | m + 1 => by unfold dep; have := dep_le c ds m; split <;> omega
theorem dep_yes {c : List Int → Nat} {ds : List Int} {m : Nat} (h : dep c ds m = m) (hc : 0 < c (ds.take (m + 1))) : dep c ds (m + 1) = m + 1 := by unfold dep; rw [if_pos ⟨h, hc⟩]
theorem dep_no {c : List Int → Nat} {ds : List Int} {m : Nat} (h : dep c ds m = m) (hc : ¬ 0 < c (ds.take (m + 1))) : ∀ n, m < n → dep c ds n = m
  | 0, hn => by omega
  | n + 1, hn => by
    unfold dep
    by_cases e : n = m
    · subst e; rw [if_neg (fun x => hc x.2)]; exact h
    · have ih := dep_no h hc n (by omega)
      rw [if_neg (fun x => by rw [ih] at x; omega), ih]
theorem dep_pre {c : List Int → Nat} {ds : List Int} : ∀ {n m : Nat}, dep c ds n = n → m ≤ n → dep c ds m = m
  | 0, m, h, hm => by
    obtain rfl : m = 0 := by omega
    rfl
  | n + 1, m, h, hm => by
    by_cases e : m = n + 1
    · subst e; exact h
    · unfold dep at h
      split at h
      · rename_i hc; exact dep_pre hc.1 (by omega)
      · have := dep_le c ds n; omega
theorem dep_top {c : List Int → Nat} {ds : List Int} {n : Nat} (h : dep c ds (n + 1) = n + 1) : 0 < c (ds.take (n + 1)) := by
  unfold dep at h
  split at h
  · rename_i hc; exact hc.2
  · have := dep_le c ds n; omega
/-- What a search says: the node and how many were visited. -/
def findAt (c : List Int → Nat) (f : List Int → Nat) (ds : List Int) (m : Nat) : Int := if dep c ds m = m then (f (ds.take m) : Int) else -1
def findN (c : List Int → Nat) (ds : List Int) (m : Nat) : Int := (dep c ds m : Int) + 1
theorem find_yes {c : List Int → Nat} {f : List Int → Nat} {ds : List Int} {m : Nat} (h : dep c ds m = m) : findAt c f ds m = (f (ds.take m) : Int) := if_pos h
theorem find_yesN {c : List Int → Nat} {ds : List Int} {m : Nat} (h : dep c ds m = m) : findN c ds m = (m : Int) + 1 := by rw [findN, h]
theorem find_no {c : List Int → Nat} {f : List Int → Nat} {ds : List Int} {m x : Nat} (h : dep c ds x = x) (hx : x < m) (hc : ¬ 0 < c (ds.take (x + 1))) : findAt c f ds m = -1 ∧ findN c ds m = (x : Int) + 1 := by
  have := dep_no h hc m hx
  exact ⟨by rw [findAt, if_neg (by omega)], by rw [findN, this]⟩
section
variable {ns : List Nd} {D : List Int → Prop} {c : List Int → Nat} {v : List Int → Int} {f : List Int → Nat}
theorem WFD.at (h : WFD ns D c v f) {ds : List Int} {m : Nat} (hd : dep c ds m = m) : D (ds.take m) := by
  cases m with
  | zero => simpa using h.droot
  | succ m => exact h.up _ (dep_top hd)
/-- One step of a search. -/
theorem WFD.step (h : WFD ns D c v f) {k : Ky} {i : Nat} (hi : i < 26) (hd : dep c (dl k) i = i) : ∃ hlt : f ((dl k).take i) < ns.length,
    (ns[f ((dl k).take i)]).2.1 (dig k i).toNat = (if 0 < c ((dl k).take (i + 1)) then (f ((dl k).take (i + 1)) : Int) else 0) ∧ (0 < c ((dl k).take (i + 1)) → f ((dl k).take (i + 1)) ≠ 0 ∧ dep c (dl k) (i + 1) = i + 1) := by
  have hD := h.at hd
  have hlt := h.lt _ hD
  have hb := dig_bd k i
  refine ⟨hlt, ?_, fun hc => ⟨fun e => ?_, dep_yes hd hc⟩⟩
  · have := h.nxt _ _ (dig k i) hD (List.getElem?_eq_getElem hlt) (by rw [List.length_take, dl_len]; omega) hb.1 hb.2
    rw [this, dl_take hi]
  · have := h.inj _ [] (h.up _ hc) h.droot (by rw [e, h.root])
    have h2 := congrArg List.length this
    rw [List.length_take, dl_len] at h2
    simp at h2
end
end Go.Proofs.Ytmcfmhiadlkglaa.Sx
