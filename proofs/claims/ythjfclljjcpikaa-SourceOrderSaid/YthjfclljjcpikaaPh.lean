/-
  My plain texts put together into one module.
-/
import Derived.Test.YthjfclljjcpikaaPi
import Derived.Test.YthjfclljjcpikaaPj
import Derived.Test.YthjfclljjcpikaaPu
/-
  The slots of each source in rows; elements taken out of a slice; all sources in order. Nothing of a program stands here.
-/
namespace Go.Proofs.Ythjfclljjcpikaa.Sx
open Go
set_option linter.unusedVariables false
set_option linter.unusedSimpArgs false
structure RowsA {α : Type} (m : Nat) (ys : List (RowG α)) (R : Nat → List α) : Prop where
  len : ys.length = m
  at' : ∀ j, j < m → ∃ r c, ys[j]? = some ((r, c), R j)
section
variable {α : Type} {m k : Nat} {ys : List (RowG α)} {R R' : Nat → List α}
theorem RowsA.new : RowsA m (List.replicate m (((none, 0), []) : RowG α)) (fun _ => []) := ⟨by simp, fun j hj => ⟨none, 0, by rw [List.getElem?_replicate, if_pos hj]⟩⟩
theorem RowsA.set (h : RowsA m ys R) (hk : k < m) {r : Option Addr} {c : Nat} {M : List α} : RowsA m (ys.set k ((r, c), M)) (upd R k M) := by
  refine ⟨by rw [List.length_set]; exact h.len, fun j hj => ?_⟩
  by_cases e : j = k
  · subst e
    exact ⟨r, c, by rw [List.getElem?_set_self (by rw [h.len]; exact hj), upd_eq]⟩
  · rw [List.getElem?_set_ne (fun e2 => e e2.symm), upd_ne e]
    exact h.at' j hj
theorem RowsA.ext (h : RowsA m ys R) (e : ∀ j, j < m → R j = R' j) : RowsA m ys R' := ⟨h.len, fun j hj => by rw [← e j hj]; exact h.at' j hj⟩
theorem Sep.rowGBack {enc : α → List Value} {sz i : Nat} {TI : TypeId} {l : List HP} {w : World} {rr : Option Addr} {rc : Nat} {xs : List α} (h : Sep (sls rr xs.length rc TI sz (xs.flatMap enc) :: rowsG TI sz enc (ys.take i ++ ys.drop (i + 1)) :: l) w) (hi : ys[i]? = some ((rr, rc), xs)) : Sep (rowsG TI sz enc ys :: l) w := by
  obtain ⟨hlt, he⟩ := List.getElem?_eq_some_iff.1 hi
  have h2 := h.rowGSet rfl hlt
  rwa [← he, List.set_getElem_self] at h2
theorem rowE_get {i : Nat} {rr : Option Addr} {rc : Nat} {xs : List α} (hi : ys[i]? = some ((rr, rc), xs)) : (ys.flatMap eRG)[i]? = some (.slice rr xs.length rc) := by
  obtain ⟨hlt, he⟩ := List.getElem?_eq_some_iff.1 hi
  have h := flat_get (enc := eRG (α := α)) (m := 1) (fun _ => rfl) ys [] i 0 hlt (by omega)
  rw [List.append_nil, Nat.mul_one, Nat.add_zero, he] at h
  rw [h]; rfl
theorem rowE_len : (ys.flatMap eRG).length = ys.length := by rw [flat_len (m := 1) (fun _ => rfl), Nat.mul_one]
end
/-! ### elements taken out -/
def butZ (xs : List Int) (z : Int) : List Int := xs.filter fun x => decide (x ≠ z)
structure DelI (xs : List Int) (z : Int) (i j : Nat) (ys : List Int) : Prop where
  len : ys.length = xs.length
  lt : i < j
  le : j ≤ xs.length
  tk : ys.take i = butZ (xs.take j) z
  dr : ys.drop j = xs.drop j
section
variable {xs ys : List Int} {z : Int} {i j k : Nat}
theorem butZ_self (h : ∀ x ∈ xs, x ≠ z) : butZ xs z = xs := List.filter_eq_self.2 fun x hx => decide_eq_true (h x hx)
theorem butZ_next (hk : k < xs.length) : butZ (xs.take (k + 1)) z = if xs[k] = z then butZ (xs.take k) z else butZ (xs.take k) z ++ [xs[k]] := by
  unfold butZ
  rw [fil_next hk]
  by_cases e : xs[k] = z
  · rw [if_pos e, if_neg (by simpa using e)]
  · rw [if_neg e, if_pos (by simpa using e)]
theorem DelI.start (hk : k < xs.length) (e : xs[k] = z) (hn : ∀ x ∈ xs.take k, x ≠ z) : DelI xs z k (k + 1) xs :=
  ⟨rfl, by omega, by omega, by rw [butZ_next hk, if_pos e, butZ_self hn], rfl⟩
theorem DelI.at (h : DelI xs z i j ys) (hj : j < xs.length) : ys[j]'(by rw [h.len]; exact hj) = xs[j] := by
  have h1 := congrArg (fun l => l[0]?) h.dr
  simp only [List.getElem?_drop, Nat.add_zero] at h1
  rw [List.getElem?_eq_getElem (by rw [h.len]; exact hj), List.getElem?_eq_getElem hj] at h1
  exact Option.some.inj h1
theorem DelI.skip (h : DelI xs z i j ys) (hj : j < xs.length) (e : xs[j] = z) : DelI xs z i (j + 1) ys :=
  ⟨h.len, by have := h.lt; omega, by omega, by rw [butZ_next hj, if_pos e]; exact h.tk, by rw [← List.drop_drop, ← List.drop_drop, h.dr]⟩
theorem DelI.keep (h : DelI xs z i j ys) (hj : j < xs.length) (e : ¬ xs[j] = z) : DelI xs z (i + 1) (j + 1) (ys.set i xs[j]) := by
  have h1 := h.lt
  have h2 := h.len
  refine ⟨by rw [List.length_set]; exact h.len, by omega, by omega, ?_, ?_⟩
  · rw [butZ_next hj, if_neg e, ← h.tk, List.take_succ_eq_append_getElem (by rw [List.length_set]; omega), List.getElem_set_self, List.take_set_of_le (Nat.le_refl _)]
  · rw [List.drop_set_of_lt (by omega), ← List.drop_drop, ← List.drop_drop, h.dr]
theorem DelI.done (h : DelI xs z i j ys) (hj : xs.length ≤ j) : ys.take i = butZ xs z ∧ i = (butZ xs z).length ∧ i ≤ ys.length := by
  have h1 := h.tk
  rw [List.take_of_length_le hj] at h1
  have h2 := h.lt
  have h3 := h.le
  have h4 := h.len
  refine ⟨h1, ?_, by omega⟩
  rw [← h1, List.length_take]; omega
theorem e1_take : (ys.flatMap e1).take i = (ys.take i).flatMap e1 := by
  have h := flat_sub (enc := e1) (sz := 1) e1_len ys 0 i
  rwa [Nat.zero_mul, List.drop_zero, List.drop_zero, Nat.mul_one] at h
theorem butZ_cst {l : List Nat} {s : Nat} : butZ (cst l) (s : Int) = cst (l.filter fun t => decide (t ≠ s)) := by
  unfold butZ cst
  rw [List.filter_map]
  congr 1
  refine List.filter_congr fun t _ => ?_
  by_cases e : t = s
  · simp [e]
  · have : ¬ (t : Int) = s := by omega
    simp [e, this]
end
/-! ### sources -/
section
variable {S lim : Nat} {T : So} {a : Int}
abbrev rowS (T : So) (j : Nat) : List Int := cst (slO T.O (j : Int))
theorem rowS_add (h : SF S lim T) {s ad : Nat} (hs : s < S) (hn : ofO T.O (s : Int) = none) (j : Nat) : rowS (addO T (ad : Int) s) j = upd (rowS T) ad (rowS T ad ++ [(s : Int)]) j := by
  unfold rowS
  rw [addO_O h hs hn, slO_snoc]
  by_cases e : j = ad
  · subst e; rw [upd_eq, if_pos rfl, cst_snoc]
  · rw [upd_ne e, if_neg (by omega)]
theorem rowS_rem (h : SF S lim T) {s ad : Nat} (hm : (((ad : Nat) : Int), s) ∈ T.O) (j : Nat) : rowS (remO T (ad : Int) s) j = upd (rowS T) ad (butZ (rowS T ad) (s : Int)) j := by
  unfold rowS
  rw [remO_O, slO_out]
  by_cases e : j = ad
  · subst e; rw [upd_eq, butZ_cst]
  · rw [upd_ne e]
    congr 1
    refine List.filter_eq_self.2 fun t ht => decide_eq_true fun e2 => ?_
    subst e2
    have h1 := nodup_map_inj h.nds (slO_mem.1 ht) hm rfl
    have := congrArg Prod.fst h1
    dsimp only at this
    omega
def lowN (T : So) (i : Nat) : List Int := ((List.range i).filter fun j : Nat => decide (0 < (slO T.O (j : Int)).length)).map fun j : Nat => (j : Int)
theorem low_succ {i : Nat} : lowN T (i + 1) = if 0 < (slO T.O (i : Int)).length then lowN T i ++ [(i : Int)] else lowN T i := by
  unfold lowN
  rw [List.range_succ, List.filter_append, List.map_append, List.filter_cons, List.filter_nil]
  by_cases e : 0 < (slO T.O (i : Int)).length
  · rw [if_pos e, if_pos (by simpa using e)]; rfl
  · rw [if_neg e, if_neg (by simpa using e), List.map_nil, List.append_nil]
theorem low_len {i : Nat} : (lowN T i).length ≤ i := by
  unfold lowN
  rw [List.length_map]
  exact Nat.le_trans (List.length_filter_le _ _) (by rw [List.length_range]; exact Nat.le_refl _)
theorem SF.low (h : SF S lim T) (hl : Low T) : lowN T 8 = allR T.R := by
  refine h.allUniq ?_ fun x => ?_
  · unfold lowN
    rw [List.pairwise_map]
    refine List.Pairwise.filter _ ?_
    refine List.pairwise_lt_range.imp fun {a b} hab => ?_
    omega
  · unfold lowN
    rw [List.mem_map]
    constructor
    · rintro ⟨y, hy, e⟩
      have h2 : 0 < (slO T.O (y : Int)).length := of_decide_eq_true (List.mem_filter.1 hy).2
      cases hv : rcR T.R (y : Int) with
      | none => rw [h.slNil hv] at h2; simp at h2
      | some r => exact ⟨_, rcR_in hv, e⟩
    · rintro ⟨p, hp, e⟩
      have h2 := h.wf p hp
      have h3 := hl p hp
      have e4 : (p.1.toNat : Int) = p.1 := by omega
      refine ⟨p.1.toNat, List.mem_filter.2 ⟨List.mem_range.2 (by omega), decide_eq_true ?_⟩, by rw [e4]; exact e⟩
      rw [e4]
      refine List.length_pos_iff.2 fun e2 => ?_
      rw [h.slNil2, rcR_none] at e2
      exact e2 p hp rfl
end
end Go.Proofs.Ythjfclljjcpikaa.Sx
