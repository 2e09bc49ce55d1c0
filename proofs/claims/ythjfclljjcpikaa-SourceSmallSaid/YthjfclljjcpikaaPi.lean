/-
  My plain texts put together into one module.
-/
import Derived.Test.YthjfclljjcpikaaPq
/-
  Owners of slots, counted. Nothing of a program stands here.
-/
namespace Go.Proofs.Ythjfclljjcpikaa.Sx
open Go
set_option linter.unusedVariables false
set_option linter.unusedSimpArgs false
section
variable {S lim : Nat} {T : So} {k a z : Int} {ow : Nat → Nat}
def owO (T : So) (i : Nat) : Nat := match ofO T.O (i : Int) with
  | some a => a.toNat + 1
  | none => 0
def OwI (T : So) (S : Nat) (ow : Nat → Nat) : Prop := ∀ i, i < S → ow i = owO T i
theorem owO_some {i : Nat} (h : ofO T.O (i : Int) = some a) : owO T i = a.toNat + 1 := by unfold owO; rw [h]
theorem owO_none {i : Nat} (h : ofO T.O (i : Int) = none) : owO T i = 0 := by unfold owO; rw [h]
theorem OwI.new : OwI (T0 S) S (fun _ => 0) := fun i _ => (owO_none (ofO_none.2 (by simp))).symm
theorem OwI.le (h : OwI T S ow) (hS : SF S lim T) (hl : Low T) {i : Nat} (hi : i < S) : ow i ≤ 8 := by
  rw [h i hi]
  cases hv : ofO T.O (i : Int) with
  | none => rw [owO_none hv]; omega
  | some b => rw [owO_some hv]; have := hl.of hS hv; omega
theorem ofO_app {O : List (Int × Nat)} {s : Nat} {x : Int} (h : x ≠ (s : Int)) : ofO (O ++ [(a, s)]) x = ofO O x := by
  unfold ofO
  rw [List.find?_append, List.find?_cons, List.find?_nil]
  have : decide (((a, s).2 : Int) = x) = false := decide_eq_false fun e => h e.symm
  rw [this]; simp
theorem ofO_filter {O : List (Int × Nat)} {s : Nat} {x : Int} (h : x ≠ (s : Int)) : ofO (O.filter fun p => decide (p.2 ≠ s)) x = ofO O x := by
  induction O with
  | nil => rfl
  | cons p t ih =>
    rw [List.filter_cons]
    by_cases e : p.2 = s
    · rw [if_neg (by simpa using e), ih]
      unfold ofO
      rw [List.find?_cons]
      have : decide ((p.2 : Int) = x) = false := decide_eq_false fun e2 => h (by rw [← e2, e])
      rw [this]
    · rw [if_pos (by simpa using e)]
      unfold ofO at ih ⊢
      rw [List.find?_cons, List.find?_cons]
      split
      · rfl
      · exact ih
theorem ofO_gone {O : List (Int × Nat)} {s : Nat} : ofO (O.filter fun p => decide (p.2 ≠ s)) (s : Int) = none := by
  rw [ofO_none]
  intro p hp e
  have : p.2 ≠ s := of_decide_eq_true (List.mem_filter.1 hp).2
  omega
theorem addO_O (h : SF S lim T) {s : Nat} (hs : s < S) (hn : ofO T.O (s : Int) = none) : (addO T a s).O = T.O ++ [(a, s)] := by
  cases hr : rcR T.R a with
  | some q => rw [addO_old hr]
  | none =>
    have hro := h.oroom hs hn
    have hrl := h.rleo
    obtain ⟨q, fs, he⟩ := h.hasFree (by omega)
    rw [addO_new hr he]
theorem remO_O {s : Nat} : (remO T a s).O = T.O.filter fun p => decide (p.2 ≠ s) := by
  unfold remO; split <;> rfl
theorem OwI.opened (h : OwI T S ow) (hS : SF S lim T) {s : Nat} (hs : s < S) (hn : ofO T.O (s : Int) = none) : OwI (addO T a s) S (upd ow s (a.toNat + 1)) := by
  intro i hi
  unfold owO
  rw [addO_O hS hs hn]
  by_cases e : i = s
  · subst e
    rw [upd_eq, ofO_snoc hn]
  · rw [upd_ne e, h i hi, ofO_app (by omega)]; rfl
theorem OwI.closed (h : OwI T S ow) {s : Nat} {b : Int} : OwI (remO T b s) S (upd ow s 0) := by
  intro i hi
  unfold owO
  rw [remO_O]
  by_cases e : i = s
  · subst e
    rw [upd_eq, ofO_gone]
  · rw [upd_ne e, h i hi, ofO_filter (by omega)]; rfl
theorem OwI.same (h : OwI T S ow) {s : Nat} (hn : ofO T.O (s : Int) = none) : OwI T S (upd ow s 0) := by
  intro i hi
  by_cases e : i = s
  · subst e; rw [upd_eq, owO_none hn]
  · rw [upd_ne e, h i hi]
/-! ### counting -/
def manyN (ow : Nat → Nat) (i j : Nat) : Nat := ((List.range i).filter fun x => decide (ow x = j)).length
theorem many_le {i j : Nat} : manyN ow i j ≤ i := by
  have := List.length_filter_le (fun x => decide (ow x = j)) (List.range i)
  rwa [List.length_range] at this
theorem many_zero {j : Nat} : manyN ow 0 j = 0 := rfl
theorem many_succ {i j : Nat} : manyN ow (i + 1) j = manyN ow i j + if ow i = j then 1 else 0 := by
  unfold manyN
  rw [List.range_succ, List.filter_append, List.length_append, List.filter_cons, List.filter_nil]
  by_cases e : ow i = j
  · rw [if_pos e, if_pos (by simpa using e)]; rfl
  · rw [if_neg e, if_neg (by simpa using e)]; rfl
theorem many_step {i : Nat} : upd (fun j => ((manyN ow i j : Nat) : Int)) (ow i) (((manyN ow i (ow i) : Nat) : Int) + 1) = fun j => ((manyN ow (i + 1) j : Nat) : Int) := by
  funext j
  unfold upd
  rw [many_succ]
  by_cases e : j = ow i
  · rw [if_pos e, e, if_pos rfl]; omega
  · rw [if_neg e, if_neg (fun e2 => e e2.symm)]; rfl
theorem len_same {α : Type} [DecidableEq α] {l1 l2 : List α} (h1 : l1.Nodup) (h2 : l2.Nodup) (h : ∀ x, x ∈ l1 ↔ x ∈ l2) : l1.length = l2.length :=
  Nat.le_antisymm (nodup_le2 h1 fun x hx => (h x).1 hx) (nodup_le2 h2 fun x hx => (h x).2 hx)
theorem OwI.count (h : OwI T S ow) (hS : SF S lim T) {b : Nat} : (slO T.O (b : Int)).length = manyN ow S (b + 1) := by
  unfold manyN
  refine len_same (slO_nodup hS.nds) (List.nodup_range.filter _) fun x => ?_
  rw [slO_mem, List.mem_filter, List.mem_range, decide_eq_true_iff]
  constructor
  · intro hm
    have hx := hS.lt _ hm
    exact ⟨hx, by rw [h x hx, owO_some (ofO_of hS.nds hm)]; omega⟩
  · rintro ⟨hx, e⟩
    rw [h x hx] at e
    cases hv : ofO T.O (x : Int) with
    | none => rw [owO_none hv] at e; omega
    | some c =>
      rw [owO_some hv] at e
      obtain ⟨s, h1, hm⟩ := ofO_in hv
      obtain ⟨r, hr⟩ := hS.srcO hm
      have := hS.wf _ hr
      have h2 : s = x := by omega
      have h3 : c = (b : Int) := by dsimp only at this; omega
      rw [← h2, ← h3]; exact hm
def srcN (T : So) (i : Nat) : Nat := ((List.range i).filter fun x : Nat => decide ((slO T.O (x : Int)).length > 0)).length
theorem src_succ {i : Nat} : srcN T (i + 1) = srcN T i + if (slO T.O (i : Int)).length > 0 then 1 else 0 := by
  unfold srcN
  rw [List.range_succ, List.filter_append, List.length_append, List.filter_cons, List.filter_nil]
  by_cases e : (slO T.O (i : Int)).length > 0
  · rw [if_pos e, if_pos (by simpa using e)]; rfl
  · rw [if_neg e, if_neg (by simpa using e)]; rfl
theorem src_le {i : Nat} : srcN T i ≤ i := by
  have := List.length_filter_le (fun x => decide ((slO T.O ((x : Nat) : Int)).length > 0)) (List.range i)
  rwa [List.length_range] at this
theorem SF.srcs (h : SF S lim T) (hl : Low T) : T.R.length = srcN T 8 := by
  have h1 : (T.R.map Prod.fst).length = (((List.range 8).filter fun x : Nat => decide ((slO T.O (x : Int)).length > 0)).map fun x : Nat => (x : Int)).length := by
    refine len_same h.nda (nodup_of_inj (List.nodup_range.filter _) fun a _ b _ e => by omega) fun x => ?_
    rw [List.mem_map, List.mem_map]
    constructor
    · rintro ⟨p, hp, e⟩
      have h2 := h.wf p hp
      have h3 := hl p hp
      have e4 : (p.1.toNat : Int) = p.1 := by omega
      refine ⟨p.1.toNat, List.mem_filter.2 ⟨List.mem_range.2 (by omega), decide_eq_true ?_⟩, by rw [e4]; exact e⟩
      rw [e4]
      refine List.length_pos_iff.2 fun e2 => ?_
      rw [h.slNil2, rcR_none] at e2
      exact e2 p hp rfl
    · rintro ⟨y, hy, e⟩
      have h2 : (slO T.O (y : Int)).length > 0 := of_decide_eq_true (List.mem_filter.1 hy).2
      have h3 : rcR T.R (y : Int) ≠ none := fun e2 => by rw [h.slNil e2] at h2; simp at h2
      cases hv : rcR T.R (y : Int) with
      | none => exact absurd hv h3
      | some r => exact ⟨_, rcR_in hv, e⟩
  rw [List.length_map, List.length_map] at h1
  exact h1
end
end Go.Proofs.Ythjfclljjcpikaa.Sx
