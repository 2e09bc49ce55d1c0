/-
  My plain texts put together into one module.
-/
import Derived.Test.YthjfclljjcpikaaPs
/-
  What the laws of sources do: acts, scripts of acts; facts on them. Nothing of a program stands here.
-/
namespace Go.Proofs.Ythjfclljjcpikaa.Sx
open Go
set_option linter.unusedVariables false
set_option linter.unusedSimpArgs false
theorem tmod_abs {n b : Int} (hb : 0 < b) : - b < n.tmod b ∧ n.tmod b < b := by
  have h1 := Int.tmod_lt_of_pos n hb
  refine ⟨?_, h1⟩
  have h2 := Int.neg_tmod n b
  have h3 := Int.tmod_lt_of_pos (-n) hb
  omega
theorem mod2 {n b : Int} (hb : 0 < b) : (n.tmod b + b) % b = n % b := by
  have h := Int.mul_tdiv_add_tmod n b
  rw [Int.add_emod_right]
  have h2 : n % b = (b * n.tdiv b + n.tmod b) % b := by rw [h]
  rw [h2, Int.mul_add_emod_self_left]
/-- What an act does: its kind, address and slot. -/
def actA (S : Nat) (T : So) (k a z : Int) : Int := if k % 2 = 0 then a % 8 else (ofO T.O (z % S)).getD 0
def actE (S lim : Nat) (T : So) (k a z : Int) : Int := if k % 2 = 0 then opnE S lim T (a % 8) (z % S) else clsE S T (z % S)
def actN (S lim : Nat) (T : So) (k a z : Int) : So := if k % 2 = 0 then opnN S lim T (a % 8) (z % S) else clsN T (z % S)
section
variable {S lim : Nat} {T : So} {k a z : Int} {xs : List (List Int)}
theorem act_open (h : k % 2 = 0) : actA S T k a z = a % 8 ∧ actE S lim T k a z = opnE S lim T (a % 8) (z % S) ∧ actN S lim T k a z = opnN S lim T (a % 8) (z % S) := ⟨if_pos h, if_pos h, if_pos h⟩
theorem act_close (h : ¬ k % 2 = 0) : actA S T k a z = (ofO T.O (z % S)).getD 0 ∧ actE S lim T k a z = clsE S T (z % S) ∧ actN S lim T k a z = clsN T (z % S) := ⟨if_neg h, if_neg h, if_neg h⟩
theorem SF.actN (h : SF S lim T) : SF S lim (Sx.actN S lim T k a z) := by
  unfold Sx.actN
  split
  · exact h.opnN (by omega)
  · exact h.clsN
/-- All addresses are small. -/
def Low (T : So) : Prop := ∀ p ∈ T.R, p.1 < 8
theorem Low.of (h : SF S lim T) (hl : Low T) {x b : Int} (e : ofO T.O x = some b) : 0 ≤ b ∧ b < 8 := by
  obtain ⟨s, _, hm⟩ := ofO_in e
  obtain ⟨r, hr⟩ := h.srcO hm
  exact ⟨(h.wf _ hr).1, hl _ hr⟩
theorem addO_R {s : Nat} {p : Int × Nat} (h : p ∈ (addO T a s).R) : p ∈ T.R ∨ p.1 = a := by
  unfold addO at h
  split at h
  · exact .inl h
  · split at h
    · rcases List.mem_append.1 h with h | h
      · exact .inl h
      · simp only [List.mem_singleton] at h; exact .inr (by rw [h])
    · exact .inl h
theorem remO_R {s : Nat} {p : Int × Nat} (h : p ∈ (remO T a s).R) : p ∈ T.R := by
  unfold remO at h
  split at h
  · exact (List.mem_filter.1 h).1
  · exact h
theorem Low.actN (hl : Low T) : Low (Sx.actN S lim T k a z) := by
  intro p hp
  unfold Sx.actN at hp
  split at hp
  · unfold opnN at hp
    split at hp
    · rcases addO_R hp with h | h
      · exact hl p h
      · omega
    · exact hl p hp
  · unfold clsN at hp
    split at hp
    · exact hl p (remO_R hp)
    · exact hl p hp
abbrev T0 (S : Nat) : So := { O := [], R := [], A := Ar.new S }
def actR (S lim : Nat) (T : So) (ns : List Int) : So := actN S lim T (ns.getD 0 0) (ns.getD 1 0) (ns.getD 2 0)
/-- The state after the first acts. -/
def fT (S lim : Nat) (xs : List (List Int)) (i : Nat) : So := (xs.take i).foldl (actR S lim) (T0 S)
theorem fT_zero : fT S lim xs 0 = T0 S := by unfold fT; rw [List.take_zero]; rfl
theorem fT_succ {i : Nat} (h : xs[i]? = some [k, a, z]) : fT S lim xs (i + 1) = actN S lim (fT S lim xs i) k a z := by
  have hi := (List.getElem?_eq_some_iff.1 h).1
  have he := (List.getElem?_eq_some_iff.1 h).2
  unfold fT
  rw [List.take_succ_eq_append_getElem hi, he, List.foldl_append]
  rfl
theorem foldl_SF : ∀ (ys : List (List Int)) {T : So}, SF S lim T → SF S lim (ys.foldl (actR S lim) T)
  | [], _, h => h
  | y :: ys, _, h => foldl_SF ys h.actN
theorem fT_SF (h1 : 1 ≤ S) (h2 : S ≤ 4096) {i : Nat} : SF S lim (fT S lim xs i) := foldl_SF _ (SF.new h1 h2)
theorem foldl_Low : ∀ (ys : List (List Int)) {T : So}, Low T → Low (ys.foldl (actR S lim) T)
  | [], _, h => h
  | y :: ys, _, h => foldl_Low ys h.actN
theorem fT_Low {i : Nat} : Low (fT S lim xs i) := foldl_Low _ (T := T0 S) (fun p hp => by simp at hp)
/-! ### opening and closing again -/
theorem filter_snoc {s : Nat} {O : List (Int × Nat)} (hn : ofO O (s : Int) = none) : (O ++ [(a, s)]).filter (fun p => decide (p.2 ≠ s)) = O := by
  rw [List.filter_append, List.filter_cons, List.filter_nil, if_neg (by simp), List.append_nil]
  refine List.filter_eq_self.2 fun p hp => ?_
  have : p.2 ≠ s := fun e => ofO_none.1 hn p hp (by omega)
  simp [this]
theorem ofO_snoc {s : Nat} {O : List (Int × Nat)} (hn : ofO O (s : Int) = none) : ofO (O ++ [(a, s)]) (s : Int) = some a := by
  unfold ofO at hn ⊢
  rw [Option.map_eq_none_iff] at hn
  rw [List.find?_append, hn]
  simp
/-- What is opened and closed leaves the slots and the sources as they were. -/
theorem back_ok (h : SF S lim T) {s : Nat} (ha : 0 ≤ a ∧ a ≤ 4294967295) (hs : s < S) (hn : ofO T.O (s : Int) = none) (hl : (slO T.O a).length < lim) :
    ofO (addO T a s).O (s : Int) = some a ∧ (clsN (addO T a s) (s : Int)).O = T.O ∧ (clsN (addO T a s) (s : Int)).R = T.R := by
  cases hr : rcR T.R a with
  | some q =>
    rw [addO_old hr]
    have h1 := ofO_snoc (a := a) hn
    refine ⟨h1, ?_⟩
    unfold clsN
    dsimp only
    rw [h1]
    dsimp only
    rw [Int.toNat_natCast]
    have he : slO ((T.O ++ [(a, s)]).filter fun p => decide (p.2 ≠ s)) a ≠ [] := by
      rw [filter_snoc hn]
      intro e
      rw [h.slNil2, hr] at e; cases e
    rw [remO_more he]
    dsimp only
    exact ⟨filter_snoc hn, rfl⟩
  | none =>
    have hro := h.oroom hs hn
    have hrl := h.rleo
    obtain ⟨q, fs, he⟩ := h.hasFree (by omega)
    rw [addO_new hr he]
    have h1 := ofO_snoc (a := a) hn
    refine ⟨h1, ?_⟩
    unfold clsN
    dsimp only
    rw [h1]
    dsimp only
    rw [Int.toNat_natCast]
    have h2 : slO ((T.O ++ [(a, s)]).filter fun p => decide (p.2 ≠ s)) a = [] := by
      rw [filter_snoc hn]; exact h.slNil hr
    unfold remO
    dsimp only
    rw [if_pos (by rw [h2]; rfl)]
    refine ⟨filter_snoc hn, ?_⟩
    dsimp only
    rw [List.filter_append, List.filter_cons, List.filter_nil, if_neg (by simp), List.append_nil]
    refine List.filter_eq_self.2 fun p hp => ?_
    have : p.1 ≠ a := rcR_none.1 hr p hp
    simp [this]
end
end Go.Proofs.Ythjfclljjcpikaa.Sx
