/-
  My plain texts put together into one module.
-/
import Derived.Test.YtkhdejjompbklaaGreatOPzc
namespace Go.Proofs.YtkhdejjompbklaaGreat.Sx
open Go
set_option linter.unusedVariables false
set_option linter.unusedSimpArgs false
section
variable {S lim : Nat} {t p u : Int} {D : Dk} {a n x k : Int} {m : Nat}
def butO (l : List Nat) (s : Nat) : List Nat := l.filter fun t => decide (t ≠ s)
theorem butO_self {l : List Nat} {s : Nat} (h : s ∉ l) : butO l s = l := List.filter_eq_self.2 fun t ht => decide_eq_true fun e => h (e ▸ ht)
theorem erase_but {l : List Nat} (h : l.Nodup) (s : Nat) : l.erase s = butO l s := by
  rw [h.erase_eq_filter]
  unfold butO
  refine List.filter_congr fun t _ => ?_
  by_cases e : t = s <;> simp [e]
theorem ord_try (h : DKF S lim t p u D) (hn : D.now ≤ n ∧ n ≤ 1099511627776) (hr : (tryD lim t p u D n a).1.1 = 22) :
    ∃ s : Nat, (tryD lim t p u D n a).1.2.1 = (s : Int) ∧ (tryD lim t p u D n a).2.ord = butO D.ord s ++ [s] := by
  unfold tryD at hr ⊢
  rw [if_neg (show ¬ (n < D.now ∨ 1099511627776 < n) by omega)] at hr ⊢
  by_cases h1 : lim ≤ (slO D.T.O a).length
  · rw [if_pos h1] at hr; exact absurd (show (27 : Int) = 22 from hr) (by decide)
  rw [if_neg h1] at hr ⊢
  by_cases h2 : bkD t p u D.T D.B a n < p
  · rw [if_pos h2] at hr; exact absurd (show (28 : Int) = 22 from hr) (by decide)
  rw [if_neg h2] at hr ⊢
  cases hf : D.A.free with
  | cons s fs =>
    obtain ⟨_, _, h5⟩ := h.w.free (s := s) (by rw [hf]; exact List.mem_cons_self)
    refine ⟨s, rfl, ?_⟩
    rw [butO_self h5]; rfl
  | nil =>
    rw [hf] at hr
    cases ho : D.ord with
    | nil => rw [ho] at hr; exact absurd (show (29 : Int) = 22 from hr) (by decide)
    | cons v vs =>
      refine ⟨v, rfl, ?_⟩
      show D.ord.erase v ++ [v] = _
      rw [erase_but h.w.ond, ho]
structure OrdI (S : Nat) (D : Dk) (k : Int) (s : Nat) (r : DoR) : Prop where
  any : r.2.1 = true → r.1.1 = 22 → ∃ o : Nat, r.1.2.1 = (o : Int) ∧ r.2.2.ord = butO D.ord o ++ [o]
  ref : r.2.1 = true → r.1.1 ≠ 22 → r.2.2.ord = D.ord
  see : r.2.1 = false → (k % 8 = 4 ∨ k % 8 = 7) → s ∈ D.ord → r.2.2.ord = butO D.ord s ++ [s]
  non : r.2.1 = false → (k % 8 = 4 ∨ k % 8 = 7) → s ∉ D.ord → r.2.2.ord = butO D.ord s
  oth : r.2.1 = false → ¬ (k % 8 = 4 ∨ k % 8 = 7) → r.2.2.ord = butO D.ord s
theorem do_ord (h : MD S lim t p u m D) (hm : m ≤ 10000) (ha : 0 ≤ a) {s : Nat} (hs : x % S = (s : Int)) (hS : 1 ≤ S) : OrdI S D k s (doD S lim t p u D k a x) := by
  have hn := h.now
  have h0 := h.f.w.now
  have hnot : ofO D.T.O (s : Int) = none → s ∉ D.ord := fun e hm => by
    obtain ⟨q, hq, e2⟩ := h.f.w.oin s hm
    exact ofO_none.1 e q hq (by omega)
  have hsm : s < S := by have := Int.emod_lt_of_pos x (show (0 : Int) < S by omega); omega
  have hcl : clsE S D.T (s : Int) = 0 ↔ (ofO D.T.O (s : Int)).isSome = true := by
    unfold clsE; rw [if_neg (by omega)]
    split
    · rename_i e; exact ⟨fun _ => e, fun _ => rfl⟩
    · rename_i e; exact ⟨fun e2 => absurd e2 (by decide), fun e2 => absurd e2 e⟩
  unfold doD
  by_cases h1 : k % 8 = 4 ∨ k % 8 = 7
  · rw [if_pos h1, hs]
    refine ⟨fun e => (by cases e), fun e => (by cases e), fun _ _ hi => ?_, fun _ _ hi => ?_, fun _ e => absurd h1 e⟩
    · show (seeN' S D (s : Int)).ord = _
      unfold seeN'
      have hso : (ofO D.T.O (s : Int)).isSome = true := by
        cases e : ofO D.T.O (s : Int) with
        | none => exact absurd hi (hnot e)
        | some _ => rfl
      rw [if_pos ⟨hcl.2 hso, by rw [Int.toNat_natCast]; exact hi⟩, Int.toNat_natCast]
      show D.ord.erase s ++ [s] = _
      rw [erase_but h.f.w.ond]
    · show (seeN' S D (s : Int)).ord = _
      unfold seeN'
      rw [if_neg (fun c => hi (by have := c.2; rwa [Int.toNat_natCast] at this)), butO_self hi]
  rw [if_neg h1]
  by_cases h2 : k % 8 = 5
  · rw [if_pos h2, hs]
    refine ⟨fun e => (by cases e), fun e => (by cases e), fun _ e => absurd e h1, fun _ e => absurd e h1, fun _ _ => ?_⟩
    show (assN S D (s : Int)).ord = _
    unfold assN
    by_cases hc : clsE S D.T (s : Int) = 0
    · rw [if_pos hc, Int.toNat_natCast]
      show D.ord.erase s = _
      rw [erase_but h.f.w.ond]
    · rw [if_neg hc, butO_self]
      refine hnot ?_
      cases e : ofO D.T.O (s : Int) with
      | none => rfl
      | some _ => exact absurd (hcl.2 (by rw [e]; rfl)) hc
  rw [if_neg h2]
  by_cases h3 : k % 8 = 6
  · rw [if_pos h3, hs]
    refine ⟨fun e => (by cases e), fun e => (by cases e), fun _ e => absurd e h1, fun _ e => absurd e h1, fun _ _ => ?_⟩
    show (cloN D (s : Int)).ord = _
    unfold cloN
    cases e : ofO D.T.O (s : Int) with
    | none => dsimp only; rw [butO_self (hnot e)]
    | some b =>
      dsimp only
      rw [Int.toNat_natCast]
      show D.ord.erase s = _
      rw [erase_but h.f.w.ond]
  rw [if_neg h3]
  have h40 : D.now ≤ D.now + x % 40 ∧ D.now + x % 40 ≤ 1099511627776 := by omega
  have hF := try_fair (a := a % 6) h.f (by omega) h40
  refine ⟨fun _ e => ord_try h.f h40 e, fun _ e => (hF.ref e).2.2.2.2, fun e => (by cases e), fun e => (by cases e), fun e => (by cases e)⟩
theorem OrdI.rest {r : DoR} {s : Nat} (h : OrdI S D k s r) (hD : DW S lim D) (hs : s < S) (ht : r.2.1 = false) :
    r.2.2.ord = if (ofO D.T.O (s : Int)).isSome = true ∧ asD S D (s : Int) = false ∧ (k % 8 = 4 ∨ k % 8 = 7) then butO D.ord s ++ [s] else butO D.ord s := by
  by_cases hk : k % 8 = 4 ∨ k % 8 = 7
  · by_cases hi : s ∈ D.ord
    · obtain ⟨b, hb⟩ := hD.ordOf hi
      obtain ⟨h1, h2, h3, _⟩ := clsE_of hD hb
      rw [if_pos ⟨by rw [h3]; rfl, by unfold asD; rw [Int.toNat_natCast]; simp [hi], hk⟩]
      exact h.see ht hk hi
    · rw [if_neg, h.non ht hk hi]
      rintro ⟨h1, h2, _⟩
      unfold asD at h2
      rw [Int.toNat_natCast] at h2
      have h3 : clsE S D.T (s : Int) = 0 := by unfold clsE; rw [if_neg (by omega), if_pos h1]
      rw [decide_eq_true h3, decide_eq_false hi] at h2
      cases h2
  · rw [if_neg (fun c => hk c.2.2)]
    exact h.oth ht hk
end
end Go.Proofs.YtkhdejjompbklaaGreat.Sx
