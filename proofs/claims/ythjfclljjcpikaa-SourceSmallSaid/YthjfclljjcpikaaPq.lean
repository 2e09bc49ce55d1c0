/-
  My plain texts put together into one module.
-/
import Derived.Test.YthjfclljjcpikaaPo
/-
  Records of sources: they are kept, and no two sources have the same. Nothing of a program stands here.
-/
namespace Go.Proofs.Ythjfclljjcpikaa.Sx
open Go
set_option linter.unusedVariables false
set_option linter.unusedSimpArgs false
section
variable {S lim : Nat} {T T' : So} {k a z : Int}
theorem tab_rep {α : Type} {n : Nat} {x : α} : List.replicate n x = tab n (fun _ => x) := by
  apply List.ext_getElem
  · simp [tab]
  · intro i h1 h2; simp [tab]
theorem actN_R {p : Int × Nat} (h : p ∈ (actN S lim T k a z).R) : p ∈ T.R ∨ rcR T.R p.1 = none := by
  unfold actN at h
  split at h
  · unfold opnN at h
    split at h
    · unfold addO at h
      split at h
      · exact .inl h
      · rename_i hr
        split at h
        · rcases List.mem_append.1 h with h | h
          · exact .inl h
          · simp only [List.mem_singleton] at h
            exact .inr (by rw [h]; exact hr)
        · exact .inl h
    · exact .inl h
  · unfold clsN at h
    split at h
    · exact .inl (remO_R h)
    · exact .inl h
/-- A source keeps its record. -/
theorem keepR (h : SF S lim T) {b : Int} {r r' : Nat} (h1 : rcR T.R b = some r) (h2 : rcR (actN S lim T k a z).R b = some r') : r' = r := by
  rcases actN_R (rcR_in h2) with h3 | h3
  · have := rcR_of h.nda h3
    rw [h1] at this
    exact (Option.some.inj this).symm
  · dsimp only at h3; rw [h1] at h3; cases h3
theorem SF.some (h : SF S lim T) : (rcR T.R a).isSome = decide (((slO T.O a).length : Int) > 0) := by
  cases hr : rcR T.R a with
  | none => rw [h.slNil hr]; rfl
  | some r =>
    have : slO T.O a ≠ [] := fun e => by rw [h.slNil2, hr] at e; cases e
    have := List.length_pos_iff.2 this
    exact (decide_eq_true (by omega)).symm
def hdT (T : So) (j : Nat) : Int := match rcR T.R (j : Int) with
  | Option.some r => (r : Int) + 1
  | none => 0
theorem hdT_some {j r : Nat} (h : rcR T.R (j : Int) = Option.some r) : hdT T j = (r : Int) + 1 := by unfold hdT; rw [h]
theorem hdT_none {j : Nat} (h : rcR T.R (j : Int) = none) : hdT T j = 0 := by unfold hdT; rw [h]
theorem hdT_pos {j : Nat} (h : hdT T j > 0) : ∃ r : Nat, rcR T.R (j : Int) = Option.some r ∧ hdT T j = (r : Int) + 1 := by
  cases hr : rcR T.R (j : Int) with
  | none => rw [hdT_none hr] at h; omega
  | some r => exact ⟨r, rfl, hdT_some hr⟩
theorem hdT_new {j : Nat} : hdT (T0 S) j = 0 := hdT_none (rcR_none.2 (by simp))
def MetI (T : So) (S i : Nat) (m : Nat → Bool) : Prop := ∀ r, r < S → (m r = true ↔ ∃ j : Nat, j < i ∧ rcR T.R (j : Int) = Option.some r)
theorem MetI.zero : MetI T S 0 (fun _ => false) := fun r _ => ⟨fun h => by simp at h, fun ⟨j, h, _⟩ => by omega⟩
theorem MetI.no {i r : Nat} {m : Nat → Bool} (h : MetI T S i m) (hS : SF S lim T) (hr : rcR T.R (i : Int) = Option.some r) : m r = false := by
  have hrS : r < S := hS.rlt (rcR_in hr)
  cases hv : m r with
  | false => rfl
  | true =>
    obtain ⟨j, hj, hjr⟩ := (h r hrS).1 hv
    have := nodup_map_inj hS.ndr (rcR_in hr) (rcR_in hjr) rfl
    have := congrArg Prod.fst this
    dsimp only at this
    omega
theorem MetI.some {i r : Nat} {m : Nat → Bool} (h : MetI T S i m) (hr : rcR T.R (i : Int) = Option.some r) : MetI T S (i + 1) (upd m r true) := by
  intro q hq
  unfold upd
  by_cases e : q = r
  · rw [if_pos e]
    exact ⟨fun _ => ⟨i, by omega, by rw [hr, e]⟩, fun _ => rfl⟩
  · rw [if_neg e, h q hq]
    constructor
    · rintro ⟨j, hj, h1⟩; exact ⟨j, by omega, h1⟩
    · rintro ⟨j, hj, h1⟩
      refine ⟨j, ?_, h1⟩
      have : j ≠ i := fun e2 => by subst e2; rw [hr] at h1; exact e (Option.some.inj h1).symm
      omega
theorem MetI.none {i : Nat} {m : Nat → Bool} (h : MetI T S i m) (hr : rcR T.R (i : Int) = Option.none) : MetI T S (i + 1) m := by
  intro q hq
  rw [h q hq]
  constructor
  · rintro ⟨j, hj, h1⟩; exact ⟨j, by omega, h1⟩
  · rintro ⟨j, hj, h1⟩
    refine ⟨j, ?_, h1⟩
    have : j ≠ i := fun e2 => by subst e2; rw [hr] at h1; cases h1
    omega
def HadI (T T' : So) (i : Nat) (f : Nat → Int) : Prop := ∀ j, j < 8 → f j = if j < i then hdT T' j else hdT T j
theorem HadI.some {i r : Nat} {f : Nat → Int} (h : HadI T T' i f) (hr : rcR T'.R (i : Int) = Option.some r) : HadI T T' (i + 1) (upd (upd f i 0) i ((r : Int) + 1)) := by
  intro j hj
  by_cases e : j = i
  · subst e
    rw [upd_eq, if_pos (by omega), hdT_some hr]
  · rw [upd_ne e, upd_ne e, h j hj]
    by_cases e2 : j < i
    · rw [if_pos e2, if_pos (by omega)]
    · rw [if_neg e2, if_neg (by omega)]
theorem HadI.none {i : Nat} {f : Nat → Int} (h : HadI T T' i f) (hr : rcR T'.R (i : Int) = Option.none) : HadI T T' (i + 1) (upd f i 0) := by
  intro j hj
  by_cases e : j = i
  · subst e
    rw [upd_eq, if_pos (by omega), hdT_none hr]
  · rw [upd_ne e, h j hj]
    by_cases e2 : j < i
    · rw [if_pos e2, if_pos (by omega)]
    · rw [if_neg e2, if_neg (by omega)]
theorem HadI.zero {f : Nat → Int} (h : ∀ j, j < 8 → f j = hdT T j) : HadI T T' 0 f := fun j hj => by rw [h j hj, if_neg (by omega)]
theorem HadI.all {f : Nat → Int} (h : HadI T T' 8 f) : ∀ j, j < 8 → f j = hdT T' j := fun j hj => by rw [h j hj, if_pos hj]
end
end Go.Proofs.Ythjfclljjcpikaa.Sx
