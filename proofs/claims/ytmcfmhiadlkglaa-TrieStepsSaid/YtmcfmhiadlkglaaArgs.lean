/-
  A law's arguments that are slices of elements whose cells are all integers (integers, structs of integers, structs of such structs), opened to lists of rows of integers. Nothing of a program stands here.
-/
import Derived.Test.YtmcfmhiadlkglaaLaw
import Derived.Test.YtmcfmhiadlkglaaMore
import Derived.Deep.Slices
namespace Go.Proofs.Ytmcfmhiadlkglaa.Sx
open Go Go.ChangeShapes Go.WideShapes Go.ChangeAt Go.RowKit Go.Deep
set_option linter.unusedVariables false
/-- Cells that are integers of given kinds. -/
def ints : List IntKind → List Int → List Value
  | k :: ks, n :: ns => .int k n :: ints ks ns
  | _, _ => []
/-- Integers that lie in their kinds. -/
def wfs : List IntKind → List Int → Prop
  | k :: ks, n :: ns => (k.min ≤ n ∧ n ≤ k.max) ∧ wfs ks ns
  | _, _ => True
theorem ints_append : ∀ {k1 k2 : List IntKind} {n1 n2 : List Int}, n1.length = k1.length → ints (k1 ++ k2) (n1 ++ n2) = ints k1 n1 ++ ints k2 n2
  | [], _, [], _, _ => rfl
  | k :: ks, _, n :: ns, _, h => by simp [ints, ints_append (k1 := ks) (n1 := ns) (by simpa using h)]
  | [], _, _ :: _, _, h => by simp at h
  | _ :: _, _, [], _, h => by simp at h
theorem wfs_append : ∀ {k1 k2 : List IntKind} {n1 n2 : List Int}, n1.length = k1.length → wfs k1 n1 → wfs k2 n2 → wfs (k1 ++ k2) (n1 ++ n2)
  | [], _, [], _, _, _, h2 => h2
  | k :: ks, _, n :: ns, _, h, h1, h2 => ⟨h1.1, wfs_append (k1 := ks) (n1 := ns) (by simpa using h) h1.2 h2⟩
  | [], _, _ :: _, _, h, _, _ => by simp at h
  | _ :: _, _, [], _, h, _, _ => by simp at h
theorem ints_length : ∀ {ks : List IntKind} {ns : List Int}, ns.length = ks.length → (ints ks ns).length = ks.length
  | [], [], _ => rfl
  | k :: ks, n :: ns, h => by simp [ints, ints_length (ks := ks) (ns := ns) (by simpa using h)]
  | [], _ :: _, h => by simp at h
  | _ :: _, [], h => by simp at h
/-- The kinds of a type's cells, if they all are integers. -/
def ikf (P : Program) (f : TypeId → Option (List IntKind)) : List Field → Nat → Option (List IntKind)
  | [], _ => some []
  | x :: xs, off => if x.offset = off then
      match f x.type with
      | some ks => if P.cellsOf x.type = ks.length then (match ikf P f xs (off + ks.length) with | some r => some (ks ++ r) | none => none) else none
      | none => none
    else none
def ik (P : Program) : Nat → TypeId → Option (List IntKind)
  | 0, _ => none
  | d + 1, t =>
    match P.underlying t with
    | some (.int k) => some [k]
    | some (.struct fs) => match ikf P (ik P d) fs.toList 0 with | some ks => if P.cellsOf t = ks.length then some ks else none | none => none
    | _ => none
section
variable {H : Type} {enc : TypeId × Value → H} {P : Program} {W : World} {base : Nat} {spare : Nat → Bool} {held : Bool}
theorem ikf_ints {f : TypeId → Option (List IntKind)} {n : Nat}
    (hf : ∀ t ks cs x, f t = some ks → DataW.trod enc P W base spare held n t cs = some x → ∃ ns, ns.length = ks.length ∧ cs = ints ks ns ∧ wfs ks ns) {cs : List Value} :
    ∀ {xs : List Field} {off : Nat} {ks : List IntKind}, ikf P f xs off = some ks → (∀ y ∈ xs, ∃ x, DataW.trod enc P W base spare held n y.type ((cs.drop y.offset).take (P.cellsOf y.type)) = some x) →
    ∃ ns, ns.length = ks.length ∧ (cs.drop off).take ks.length = ints ks ns ∧ wfs ks ns
  | [], off, ks, h, _ => by
    simp only [ikf, Option.some.injEq] at h; subst h
    exact ⟨[], rfl, by simp [ints], trivial⟩
  | y :: ys, off, ks, h, hx => by
    unfold ikf at h
    split at h
    · rename_i ho
      split at h
      · rename_i k1 h1
        split at h
        · rename_i hc
          split at h
          · rename_i k2 h2
            cases h
            obtain ⟨x, hy⟩ := hx y List.mem_cons_self
            obtain ⟨n1, e1, e2, e3⟩ := hf _ _ _ _ h1 hy
            obtain ⟨n2, g1, g2, g3⟩ := ikf_ints hf (cs := cs) h2 (fun z hz => hx z (List.mem_cons_of_mem _ hz))
            refine ⟨n1 ++ n2, by simp [e1, g1], ?_, wfs_append e1 e3 g3⟩
            rw [List.length_append, List.take_add, ints_append e1, ← g2, List.drop_drop, ← e2, ho, hc]
          · cases h
        · cases h
      · cases h
    · cases h
theorem ik_ints : ∀ (d : Nat) (n : Nat) (t : TypeId) (ks : List IntKind) (cs : List Value) (x : DataW H × List MemPlace), ik P d t = some ks → DataW.trod enc P W base spare held n t cs = some x → ∃ ns, ns.length = ks.length ∧ cs = ints ks ns ∧ wfs ks ns
  | 0, _, _, _, _, _, h, _ => by simp [ik] at h
  | d + 1, n, t, ks, cs, x, h, hx => by
    unfold ik at h
    split at h
    · rename_i k hu
      cases h
      obtain ⟨m, e, _, hw⟩ := DataW.trod_int hu hx
      exact ⟨[m], rfl, by simp [ints, e], by simpa [wfs, Lit.wf] using hw⟩
    · rename_i fs hu
      obtain ⟨xs, m, rfl, _, hl, hlen, hi⟩ := DataW.trod_struct hu hx
      split at h
      · rename_i k1 h1
        split at h
        · rename_i hc
          cases h
          obtain ⟨ns, e1, e2, e3⟩ := ikf_ints (enc := enc) (P := P) (W := W) (base := base) (spare := spare) (held := held) (f := ik P d) (n := m) (fun t ks cs x => ik_ints d m t ks cs x) (cs := cs) h1 (fun y hy => by
            obtain ⟨i, hi', rfl⟩ := List.getElem_of_mem hy
            have := hi i fs.toList[i] (by simp at hi' ⊢)
            exact ⟨xs[i]'(by simp at hi'; omega), by rw [this]; simp⟩)
          exact ⟨ns, e1, by rw [← e2, List.drop_zero, ← hc, ← hl, List.take_length], e3⟩
        · cases h
      · cases h
    · cases h
/-- An argument that is a slice of rows of integers. -/
structure ArgS (W : World) (ks : List IntKind) (q : Option Addr) (n c : Nat) (xs : List (List Int)) : Prop where
  len : n = xs.length
  cap : n ≤ c ∧ c ≤ 9223372036854775807
  rows : ∀ x ∈ xs, x.length = ks.length ∧ wfs ks x
  cells : 0 < n → ∃ b i, q = some ⟨b, i, none⟩ ∧ ∀ k (h : k < xs.length) j v, (ints ks xs[k])[j]? = some v → W.cell? ⟨b, i + k * ks.length + j, none⟩ = some v
theorem open_rows {r : Reach} {b0 : Nat} {t e : TypeId} {ks : List IntKind} {v : Value} {d : DataW H} {ps : List MemPlace} (ht : P.underlying t = some (.slice e)) (hk : ik P 8 e = some ks) (hc : P.cellsOf e = ks.length) (h0 : 0 < ks.length)
    (hval : Value.okWide P W r b0 t v) (hd : DataW.Trod enc P W base spare held t v d ps) : ∃ q n c xs, v = .slice q n c ∧ ArgS W ks q n c xs := by
  obtain ⟨q, n, c, rfl⟩ := okWide_slice ht hval
  obtain ⟨fuel, hf⟩ := hd
  rcases open_slice ht hf with ⟨h1, h2⟩ | ⟨a, len, cap, m, n', D, Pl, h1, hb, hl, hm, hmm, _, hx⟩
  · simp [Value.cells] at h1
    obtain ⟨rfl, rfl, rfl⟩ := h1
    exact ⟨none, 0, 0, [], rfl, rfl, ⟨by omega, by omega⟩, by simp, by simp⟩
  · simp [Value.cells] at h1
    obtain ⟨rfl, rfl, rfl⟩ := h1
    have hlm : n ≤ m := by rw [hmm]; split <;> omega
    have hx' : ∀ i, i < n → ∃ ns : List Int, ns.length = ks.length ∧ wfs ks ns ∧ ∀ j v, (ints ks ns)[j]? = some v → W.cell? ((a.add (i * ks.length)).add j) = some v := by
      intro i hi
      obtain ⟨cs', hc1, hc2⟩ := hx i (by omega)
      obtain ⟨ns, e1, rfl, e3⟩ := ik_ints 8 _ _ _ _ _ hk hc2
      refine ⟨ns, e1, e3, fun j v hj => ?_⟩
      rw [hc] at hc1
      unfold World.cells? at hc1
      split at hc1
      · have hjl : j < ks.length := by
          have := (List.getElem?_eq_some_iff.1 hj).1
          rw [ints_length e1] at this; exact this
        rw [mapM_some_get hc1 j j (by simp [hjl]), hj]
      · cases hc1
    have hch : ∀ i : Nat, ∃ ns : List Int, i < n → ns.length = ks.length ∧ wfs ks ns ∧ ∀ j v, (ints ks ns)[j]? = some v → W.cell? ((a.add (i * ks.length)).add j) = some v := fun i =>
      if h : i < n then ⟨(hx' i h).choose, fun _ => (hx' i h).choose_spec⟩ else ⟨[], fun h' => absurd h' h⟩
    have hF := fun i => (hch i).choose_spec
    refine ⟨_, _, _, (List.range n).map fun i => (hch i).choose, rfl, by simp, ⟨hl, hm⟩, ?_, ?_⟩
    · intro x hx
      obtain ⟨i, hi, rfl⟩ := List.mem_map.1 hx
      have := hF i (by simpa using hi)
      exact ⟨this.1, this.2.1⟩
    · intro hpos
      have hsp : a.spot = none := by
        have h := hF 0 hpos
        obtain ⟨k, kt, rfl⟩ : ∃ k kt, ks = k :: kt := by cases ks with | nil => simp at h0 | cons k kt => exact ⟨k, kt, rfl⟩
        obtain ⟨x, xt, hxe⟩ : ∃ x xt, (hch 0).choose = x :: xt := by
          cases hxe : (hch 0).choose with | nil => rw [hxe] at h; simp at h | cons x xt => exact ⟨x, xt, rfl⟩
        have h3 := h.2.2 0 (.int k x) (by rw [hxe]; rfl)
        rw [Nat.zero_mul] at h3
        simp only [Addr.add, if_true, World.cell?] at h3
        cases hs : a.spot with
        | none => rfl
        | some y => rw [hs] at h3; split at h3 <;> simp at h3
      obtain ⟨b, i, sp⟩ := a
      dsimp only at hsp
      subst hsp
      refine ⟨b, i, rfl, fun k h j v hj => ?_⟩
      have hk' : k < n := by simpa using h
      have := (hF k hk').2.2 j v (by simpa using hj)
      rw [Addr.add_lit, Addr.add_lit] at this
      exact this
end
theorem len1 {α : Type} {xs : List α} (h : xs.length = 1) : ∃ y0, xs = [y0] :=
  match xs, h with
  | [y0], _ => ⟨y0, rfl⟩
theorem len2 {α : Type} {xs : List α} (h : xs.length = 2) : ∃ y0 y1, xs = [y0, y1] :=
  match xs, h with
  | [y0, y1], _ => ⟨y0, y1, rfl⟩
theorem len3 {α : Type} {xs : List α} (h : xs.length = 3) : ∃ y0 y1 y2, xs = [y0, y1, y2] :=
  match xs, h with
  | [y0, y1, y2], _ => ⟨y0, y1, y2, rfl⟩
theorem len4 {α : Type} {xs : List α} (h : xs.length = 4) : ∃ y0 y1 y2 y3, xs = [y0, y1, y2, y3] :=
  match xs, h with
  | [y0, y1, y2, y3], _ => ⟨y0, y1, y2, y3, rfl⟩
theorem len5 {α : Type} {xs : List α} (h : xs.length = 5) : ∃ y0 y1 y2 y3 y4, xs = [y0, y1, y2, y3, y4] :=
  match xs, h with
  | [y0, y1, y2, y3, y4], _ => ⟨y0, y1, y2, y3, y4, rfl⟩
theorem len6 {α : Type} {xs : List α} (h : xs.length = 6) : ∃ y0 y1 y2 y3 y4 y5, xs = [y0, y1, y2, y3, y4, y5] :=
  match xs, h with
  | [y0, y1, y2, y3, y4, y5], _ => ⟨y0, y1, y2, y3, y4, y5, rfl⟩
theorem len7 {α : Type} {xs : List α} (h : xs.length = 7) : ∃ y0 y1 y2 y3 y4 y5 y6, xs = [y0, y1, y2, y3, y4, y5, y6] :=
  match xs, h with
  | [y0, y1, y2, y3, y4, y5, y6], _ => ⟨y0, y1, y2, y3, y4, y5, y6, rfl⟩
theorem len8 {α : Type} {xs : List α} (h : xs.length = 8) : ∃ y0 y1 y2 y3 y4 y5 y6 y7, xs = [y0, y1, y2, y3, y4, y5, y6, y7] :=
  match xs, h with
  | [y0, y1, y2, y3, y4, y5, y6, y7], _ => ⟨y0, y1, y2, y3, y4, y5, y6, y7, rfl⟩
theorem len9 {α : Type} {xs : List α} (h : xs.length = 9) : ∃ y0 y1 y2 y3 y4 y5 y6 y7 y8, xs = [y0, y1, y2, y3, y4, y5, y6, y7, y8] :=
  match xs, h with
  | [y0, y1, y2, y3, y4, y5, y6, y7, y8], _ => ⟨y0, y1, y2, y3, y4, y5, y6, y7, y8, rfl⟩
theorem ArgS.at {ks : List IntKind} {q : Option Addr} {n c k : Nat} {xs : List (List Int)} {W : World} (A : ArgS W ks q n c xs) (h : k < n) :
    ∃ b i ns, q = some ⟨b, i, none⟩ ∧ xs[k]? = some ns ∧ ns.length = ks.length ∧ wfs ks ns ∧ ∀ j v, (ints ks ns)[j]? = some v → W.cell? ⟨b, i + k * ks.length + j, none⟩ = some v := by
  obtain ⟨b, i, e, hc⟩ := A.cells (by omega)
  have hk : k < xs.length := by have := A.len; omega
  exact ⟨b, i, xs[k], e, by simp [hk], (A.rows _ (List.getElem_mem hk)).1, (A.rows _ (List.getElem_mem hk)).2, hc k hk⟩
theorem Ex.of_pk2 {r s : HP} {l l1 l2 : List HP} (p : Pk r l l1) (q : Pk s l1 l2) : Ex l l2 := by
  intro σ h hs
  obtain ⟨g, hg, s1⟩ := Ex.of_pk p σ h hs
  obtain ⟨g2, hg2, s2⟩ := Ex.of_pk q σ g s1
  exact ⟨g2, fun b o e => hg b o (hg2 b o e), s2⟩
end Go.Proofs.Ytmcfmhiadlkglaa.Sx
