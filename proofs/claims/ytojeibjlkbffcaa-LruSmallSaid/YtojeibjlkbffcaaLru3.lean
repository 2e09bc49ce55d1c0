/-
  More on slots in the order in which they were seen: plain laws. Nothing of a program stands here.
-/
import Derived.Test.YtojeibjlkbffcaaLru2
import Derived.Test.YtojeibjlkbffcaaInts
namespace Go.Proofs.Ytojeibjlkbffcaa.Sx
open Go
set_option linter.unusedVariables false
set_option linter.unusedSimpArgs false
/-- An element of an array of integers that is a value. -/
theorem Yld.indexV {P : Program} {n : Nat} {a : Act} {S : Slots} {l : List HP} {d : Nat} {t : TypeId} {pos : String} {af : Array Edge} {g : Option (Nat × Bool)} {ty e : TypeId} {x y : Operand} {cs : List Value} {len m : Nat} {v : Value} {z : TypeInfo} (hS : Has n a S) (hx : ev S x = some (.agg cs.toArray)) (hy : ev S y = some (.int .i64 (m : Int)))
    (hu : P.underlying ty = some (.array len e)) (hi : P.info? e = some z) (hz : z.size = 1) (ha : ∀ w, (isAgg e).run P w = .ok false w) (h1 : m < len) (hv : cs[m]? = some v) : Yld P a l ⟨some d, .index ty x y, t, pos, af, g⟩ v := by
  intro w _
  have hs : (sizeOf e).run P w = .ok z.size w := by simp [sizeOf, typeInfo, hi]
  have h2 : (0 : Int) ≤ (m : Int) ∧ (m : Int) < (len : Int) := by omega
  simp [execOp, hS.ev hx, hS.ev hy, Instr.index, asIntOf, run_underlying hu, h2, h1, ha, hs, hz, part, hv]
theorem IntsAt.drop {l : List HP} {q : Option Addr} {xs : List Int} {c k : Nat} (h : IntsAt l q xs) (hc : xs.length ≤ c) : IntsAt l (if c = k then q else q.map fun x => x.add (k * 1)) (xs.drop k) := by
  intro h0
  rw [List.length_drop] at h0
  obtain ⟨b, i, e, r⟩ := h (by omega)
  rw [if_neg (by omega), e]
  refine ⟨b, i + k, by simp [Addr.add_lit], fun j hj => ?_⟩
  rw [List.length_drop] at hj
  have h1 := r (k + j) (by omega)
  rw [List.getElem_drop]
  exact h1.at (by omega)
theorem suffix {T : Nat → Int} {t0 : Int} : ∀ {l : List Nat}, (l.Pairwise fun a b => T a < T b) → ∃ k, k ≤ l.length ∧ l.filter (fun j => decide (T j > t0)) = l.drop k ∧ ∀ (i x : Nat), l[i]? = some x → (T x > t0 ↔ k ≤ i)
  | [], _ => ⟨0, Nat.le_refl _, rfl, fun i x h => by simp at h⟩
  | y :: ys, h => by
    rw [List.pairwise_cons] at h
    by_cases hy : T y > t0
    · have hall : ∀ x ∈ y :: ys, T x > t0 := by
        intro x hx
        rcases List.mem_cons.1 hx with rfl | hx
        · exact hy
        · have := h.1 x hx; omega
      refine ⟨0, Nat.zero_le _, ?_, fun i x hx => ⟨fun _ => Nat.zero_le _, fun _ => hall x (List.mem_of_getElem? hx)⟩⟩
      rw [List.drop_zero, List.filter_eq_self]
      intro x hx; exact decide_eq_true (hall x hx)
    · obtain ⟨k, h1, h2, h3⟩ := suffix h.2
      refine ⟨k + 1, by rw [List.length_cons]; omega, ?_, fun i x hx => ?_⟩
      · rw [List.filter_cons_of_neg (by simpa using hy), h2, List.drop_succ_cons]
      · cases i with
        | zero =>
          simp only [List.getElem?_cons_zero, Option.some.injEq] at hx
          subst hx
          exact ⟨fun h => absurd h hy, fun h => by omega⟩
        | succ i =>
          rw [List.getElem?_cons_succ] at hx
          rw [h3 i x hx]; omega
theorem cst_drop {l : List Nat} {k : Nat} : cst (l.drop k) = (cst l).drop k := by unfold cst; rw [List.map_drop]
/-- How many times there are that are positive. -/
theorem LI.count {ord : List Nat} {T : Nat → Int} {now : Int} {tm : Nat → Int} (h : LI ord T now tm) : ((List.range 16).filter fun x => decide (0 < tm x)).length = ord.length := by
  have h1 : ((List.range 16).filter fun x => decide (0 < tm x)).Nodup := List.nodup_range.filter _
  have hs1 : ∀ x ∈ (List.range 16).filter (fun x => decide (0 < tm x)), x ∈ ord := by
    intro x hx
    rw [List.mem_filter, List.mem_range] at hx
    exact (h.pos hx.1).2 (of_decide_eq_true hx.2)
  have hs2 : ∀ x ∈ ord, x ∈ (List.range 16).filter (fun x => decide (0 < tm x)) := by
    intro x hx
    rw [List.mem_filter, List.mem_range]
    exact ⟨h.lt x hx, decide_eq_true ((h.pos (h.lt x hx)).1 hx)⟩
  have key : ∀ {l1 l2 : List Nat}, l1.Nodup → (∀ x ∈ l1, x ∈ l2) → l1.length ≤ l2.length := by
    intro l1
    induction l1 with
    | nil => intro l2 _ _; simp
    | cons y t ih =>
      intro l2 hn hs
      rw [List.nodup_cons] at hn
      have hy := hs y List.mem_cons_self
      have h3 := ih (l2 := l2.erase y) hn.2 fun x hx => (List.mem_erase_of_ne (by rintro rfl; exact hn.1 hx)).2 (hs x (List.mem_cons_of_mem _ hx))
      rw [List.length_erase_of_mem hy] at h3
      have := List.length_pos_of_mem hy
      rw [List.length_cons]; omega
  exact Nat.le_antisymm (key h1 hs1) (key h.nd hs2)
def lastT (ord : List Nat) (T : Nat → Int) (i : Nat) : Int := if i = 0 then 0 else T (ord[i - 1]?.getD 0)
section
variable {ord : List Nat} {T : Nat → Int} {now : Int} {tm : Nat → Int}
theorem LI.last (h : LI ord T now tm) {i x : Nat} (hi : i < ord.length) (hx : ord[i] = x) : lastT ord T i < T x := by
  subst hx
  unfold lastT
  by_cases h0 : i = 0
  · rw [if_pos h0]; exact (h.bd _ (List.getElem_mem hi)).1
  · rw [if_neg h0, List.getElem?_eq_getElem (by omega)]
    exact (List.pairwise_iff_getElem.1 h.pw) (i - 1) i (by omega) hi (by omega)
theorem lastT_next {i x : Nat} (hi : i < ord.length) (hx : ord[i] = x) : lastT ord T (i + 1) = T x := by
  unfold lastT
  rw [if_neg (by omega), Nat.add_sub_cancel, List.getElem?_eq_getElem hi, hx]; rfl
theorem LI.lastN (h : LI ord T now tm) (hn : 0 ≤ now) : lastT ord T ord.length ≤ now := by
  unfold lastT
  by_cases h0 : ord.length = 0
  · rw [if_pos h0]; exact hn
  · rw [if_neg h0, List.getElem?_eq_getElem (by omega)]
    exact (h.bd _ (List.getElem_mem _)).2
theorem count_next {i : Nat} : ((List.range (i + 1)).filter fun x => decide (0 < tm x)).length = ((List.range i).filter fun x => decide (0 < tm x)).length + if 0 < tm i then 1 else 0 := by
  rw [List.range_succ, List.filter_append, List.length_append]
  by_cases h : 0 < tm i
  · rw [if_pos h, List.filter_cons_of_pos (by simpa using h)]; rfl
  · rw [if_neg h, List.filter_cons_of_neg (by simpa using h)]; rfl
theorem dir0_headL {l : List Nat} (h : 0 < l.length) : (dirL 0 l).head? = some l[0] := by
  show l.head? = _
  rw [List.head?_eq_getElem?, List.getElem?_eq_getElem h]
theorem dir1_headL {l : List Nat} (h : 0 < l.length) : (dirL 1 l).head? = some (l[l.length - 1]'(by omega)) := by
  show l.reverse.head? = _
  rw [List.head?_reverse, List.getLast?_eq_getElem?, List.getElem?_eq_getElem]
theorem LI.none (h : LI ord T now tm) : ord.filter (fun j => decide (T j > now)) = [] := by
  rw [List.filter_eq_nil_iff]
  intro x hx
  have := (h.bd x hx).2
  simp; omega
theorem LI.all (h : LI ord T now tm) : ord.filter (fun j => decide (T j > 0)) = ord := by
  rw [List.filter_eq_self]
  intro x hx
  exact decide_eq_true (h.bd x hx).1
end
end Go.Proofs.Ytojeibjlkbffcaa.Sx
