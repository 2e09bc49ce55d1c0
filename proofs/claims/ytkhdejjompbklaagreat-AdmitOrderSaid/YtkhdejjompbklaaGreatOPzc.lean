/-
  My plain texts put together into one module.
-/
import Derived.Test.YtkhdejjompbklaaGreatOPza
namespace Go.Proofs.YtkhdejjompbklaaGreat.Sx
open Go
set_option linter.unusedVariables false
set_option linter.unusedSimpArgs false
section
variable {S lim : Nat} {t p u : Int} {D : Dk} {a n x k : Int} {m : Nat}
structure FairI (S lim : Nat) (p : Int) (D : Dk) (a : Int) (r : DoR) (tok : Int) : Prop where
  any : r.1.1 = 27 ∨ r.1.1 = 28 ∨ r.1.1 = 29 ∨ r.1.1 = 22
  ref : r.1.1 ≠ 22 → r.1.2.1 = 0 ∧ r.1.2.2.1 = 0 ∧ r.1.2.2.2 = false ∧ r.2.2.T = D.T ∧ r.2.2.ord = D.ord
  r27 : r.1.1 = 27 → (slO D.T.O a).length = lim
  r28 : r.1.1 = 28 → (slO D.T.O a).length < lim ∧ tok = 0
  r29 : r.1.1 = 29 → (slO D.T.O a).length < lim ∧ D.T.O.length = S ∧ D.ord = []
  r22 : r.1.1 = 22 → (slO D.T.O a).length < lim
  new : r.1.1 = 22 → D.T.O.length ≠ S → r.1.2.2.2 = false ∧ r.2.2.T.O.length = D.T.O.length + 1
  drop : r.1.1 = 22 → D.T.O.length = S → r.1.2.2.2 = true ∧ r.2.2.T.O.length = D.T.O.length ∧ ∃ s vs, D.ord = s :: vs ∧ r.1.2.1 = (s : Int) ∧ r.1.2.2.1 = (s : Int)
theorem try_fair (h : DKF S lim t p u D) (ha : 0 ≤ a ∧ a ≤ 4294967295) (hn : D.now ≤ n ∧ n ≤ 1099511627776) :
    FairI S lim p D a (((tryD lim t p u D n a).1.1, (tryD lim t p u D n a).1.2.1, (tryD lim t p u D n a).1.2.2.1, (tryD lim t p u D n a).1.2.2.2.1), true, (tryD lim t p u D n a).2) (bkD t p u (tryD lim t p u D n a).2.T (tryD lim t p u D n a).2.B a (tryD lim t p u D n a).2.now / p) := by
  have hll := h.w.sf.lim a
  have hB := h.bk (a := a) hn
  unfold tryD
  rw [if_neg (show ¬ (n < D.now ∨ 1099511627776 < n) by omega)]
  by_cases h1 : lim ≤ (slO D.T.O a).length
  · rw [if_pos h1]
    exact ⟨.inl rfl, fun _ => ⟨rfl, rfl, rfl, rfl, rfl⟩, fun _ => by omega, fun e => absurd (show (27 : Int) = 28 from e) (by decide), fun e => absurd (show (27 : Int) = 29 from e) (by decide), fun e => absurd (show (27 : Int) = 22 from e) (by decide), fun e => absurd (show (27 : Int) = 22 from e) (by decide), fun e => absurd (show (27 : Int) = 22 from e) (by decide)⟩
  rw [if_neg h1]
  by_cases h2 : bkD t p u D.T D.B a n < p
  · rw [if_pos h2]
    exact ⟨.inr (.inl rfl), fun _ => ⟨rfl, rfl, rfl, rfl, rfl⟩, fun e => absurd (show (28 : Int) = 27 from e) (by decide), fun _ => ⟨by omega, Int.ediv_eq_zero_of_lt hB.2.1 h2⟩, fun e => absurd (show (28 : Int) = 29 from e) (by decide), fun e => absurd (show (28 : Int) = 22 from e) (by decide), fun e => absurd (show (28 : Int) = 22 from e) (by decide), fun e => absurd (show (28 : Int) = 22 from e) (by decide)⟩
  rw [if_neg h2]
  cases hf : D.A.free with
  | cons s fs =>
    have hnf : D.T.O.length ≠ S := fun e => by have := h.w.full.1 e; rw [hf] at this; cases this
    obtain ⟨h3, h4, _⟩ := h.w.free (s := s) (by rw [hf]; exact List.mem_cons_self)
    have hO := h.w.sf.addO_O (a := a) h3 h4
    refine ⟨.inr (.inr (.inr rfl)), fun e => absurd rfl e, fun e => absurd (show (22 : Int) = 27 from e) (by decide), fun e => absurd (show (22 : Int) = 28 from e) (by decide), fun e => absurd (show (22 : Int) = 29 from e) (by decide), fun _ => by omega, fun _ _ => ⟨rfl, ?_⟩, fun _ e => absurd e hnf⟩
    show (addO D.T a s).O.length = _
    rw [hO, List.length_append]; rfl
  | nil =>
    have hfu := h.w.full.2 hf
    cases ho : D.ord with
    | nil =>
      exact ⟨.inr (.inr (.inl rfl)), fun _ => ⟨rfl, rfl, rfl, rfl, rfl⟩, fun e => absurd (show (29 : Int) = 27 from e) (by decide), fun e => absurd (show (29 : Int) = 28 from e) (by decide), fun _ => ⟨by omega, hfu, ho⟩, fun e => absurd (show (29 : Int) = 22 from e) (by decide), fun e => absurd (show (29 : Int) = 22 from e) (by decide), fun e => absurd (show (29 : Int) = 22 from e) (by decide)⟩
    | cons v vs =>
      refine ⟨.inr (.inr (.inr rfl)), fun e => absurd rfl e, fun e => absurd (show (22 : Int) = 27 from e) (by decide), fun e => absurd (show (22 : Int) = 28 from e) (by decide), fun e => absurd (show (22 : Int) = 29 from e) (by decide), fun _ => by omega, fun _ e => absurd hfu e, fun _ _ => ⟨rfl, ?_, v, vs, ho, rfl, rfl⟩⟩
      obtain ⟨b, hb⟩ := h.w.ordOf (x := v) (by rw [ho]; exact List.mem_cons_self)
      dsimp only
      rw [ofO_of h.w.sf.nds hb]
      have h4 := ((h.to hn).cls (a := b) (s := v) hb).w
      have hl : (slO (clsD (atD D n) b v).T.O a).length < lim := by
        have := slO_rem (T := D.T) (a := a) (b := b) (s := v)
        show (slO (remO D.T b v).O a).length < lim
        omega
      have hw := h4.opn (a := a) (s := v) (fs := D.A.free) ha rfl hl
      have h5 : (opnD (clsD (atD D n) b v) a v).A.free = [] := by
        show (D.A.give v).take.free = []
        have : (D.A.give v).take.free = D.A.free := by simp [Ar.take, Ar.give]
        rw [this, hf]
      have h6 := hw.full.2 h5
      show (opnD (clsD (atD D n) b v) a v).T.O.length = _
      omega
end
end Go.Proofs.YtkhdejjompbklaaGreat.Sx
