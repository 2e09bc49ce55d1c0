/-
  My plain texts put together into one module.
-/
import Derived.Test.YtkhdejjompbklaaGreatOPb
import Derived.Test.YtkhdejjompbklaaGreatOPa
import Derived.LoopN
namespace Go.Proofs.YtkhdejjompbklaaGreat.Sx
set_option linter.unusedVariables false
theorem mulbd {a b A B : Int} (h0 : 0 ≤ a) (h1 : a ≤ A) (k0 : 0 ≤ b) (k1 : b ≤ B) : 0 ≤ a * b ∧ a * b ≤ A * B :=
  ⟨Int.mul_nonneg h0 k0, Int.mul_le_mul h1 k1 k0 (by omega)⟩
def RR (t p b : Int) : Prop := 1 ≤ t ∧ t ≤ 65536 ∧ 1 ≤ p ∧ p ≤ 16777215 ∧ 1 ≤ b ∧ b ≤ 65536
instance (t p b : Int) : Decidable (RR t p b) := by unfold RR; infer_instance
def RB (t p b lv a : Int) : Prop := RR t p b ∧ 0 ≤ lv ∧ lv ≤ b * p ∧ 0 ≤ a ∧ a ≤ 1099511627776
instance (t p b lv a : Int) : Decidable (RB t p b lv a) := by unfold RB; infer_instance
def RT (t p b lv a now : Int) : Prop := RB t p b lv a ∧ a ≤ now ∧ now ≤ 1099511627776
instance (t p b lv a now : Int) : Decidable (RT t p b lv a now) := by unfold RT; infer_instance
theorem RR.most {t p b : Int} (h : RR t p b) : 0 ≤ b * p ∧ b * p ≤ 1099511562240 := by
  obtain ⟨_, _, _, _, _, _⟩ := h
  have := mulbd (a := b) (b := p) (A := 65536) (B := 16777215) (by omega) (by omega) (by omega) (by omega)
  exact ⟨this.1, by omega⟩
def lvl (t p b lv a now : Int) : Int := min (lv + (now - a) * t) (b * p)
theorem RT.bd {t p b lv a now : Int} (h : RT t p b lv a now) : 0 ≤ (now - a) * t ∧ (now - a) * t ≤ 72057594037927936 ∧ 0 ≤ lv ∧ lv ≤ 1099511562240 ∧ 0 ≤ b * p ∧ b * p ≤ 1099511562240 := by
  obtain ⟨⟨hr, h1, h2, h3, h4⟩, h5, h6⟩ := h
  have hm := hr.most
  obtain ⟨_, _, _, _, _, _⟩ := hr
  have := mulbd (a := now - a) (b := t) (A := 1099511627776) (B := 65536) (by omega) (by omega) (by omega) (by omega)
  exact ⟨this.1, by omega, h1, by omega, hm⟩
theorem lvl_bd {t p b lv a now : Int} (h : RT t p b lv a now) : 0 ≤ lvl t p b lv a now ∧ lvl t p b lv a now ≤ b * p ∧ b * p ≤ 1099511562240 := by
  have := h.bd
  unfold lvl
  omega
def fullF (t p b now : Int) : Int × Int × Int := if RR t p b ∧ 0 ≤ now ∧ now ≤ 1099511627776 then (b * p, now, 0) else (0, 0, 2)
def fillF (t p b lv a now : Int) : Int × Int × Int := if RT t p b lv a now then (lvl t p b lv a now, now, 0) else (0, 0, 2)
def tokF (t p b lv a now : Int) : Int × Int := if RT t p b lv a now then (lvl t p b lv a now / p, 0) else (0, 2)
def takeF (t p b lv a now n : Int) : Int × Int × Int :=
  if RT t p b lv a now ∧ 0 ≤ n ∧ n ≤ b then (if lvl t p b lv a now < n * p then (0, 0, 6) else (lvl t p b lv a now - n * p, now, 0)) else (0, 0, 2)
theorem fillF_pos {t p b lv a now : Int} (h : RT t p b lv a now) : fillF t p b lv a now = (lvl t p b lv a now, now, 0) := by rw [fillF, if_pos h]
theorem fillF_neg {t p b lv a now : Int} (h : ¬ RT t p b lv a now) : fillF t p b lv a now = (0, 0, 2) := by rw [fillF, if_neg h]
theorem fillF_ok {t p b lv a now : Int} (h : (fillF t p b lv a now).2.2 = 0) : RT t p b lv a now := by
  by_cases h' : RT t p b lv a now
  · exact h'
  · rw [fillF_neg h'] at h; simp at h
theorem fillF_no {t p b lv a now : Int} (h : ¬ (fillF t p b lv a now).2.2 = 0) : ¬ RT t p b lv a now := fun h' => h (by rw [fillF_pos h'])
theorem tokF_pos {t p b lv a now : Int} (h : RT t p b lv a now) : tokF t p b lv a now = (lvl t p b lv a now / p, 0) := by rw [tokF, if_pos h]
theorem tokF_neg {t p b lv a now : Int} (h : ¬ RT t p b lv a now) : tokF t p b lv a now = (0, 2) := by rw [tokF, if_neg h]
theorem takeF_no {t p b lv a now n : Int} (h : ¬ RT t p b lv a now ∨ n < 0 ∨ b < n) : takeF t p b lv a now n = (0, 0, 2) := by
  rw [takeF, if_neg]; rintro ⟨h1, h2, h3⟩; rcases h with h | h | h <;> first | contradiction | omega
theorem takeF_none {t p b lv a now n : Int} (h : RT t p b lv a now) (h0 : 0 ≤ n) (h1 : n ≤ b) (h2 : lvl t p b lv a now < n * p) : takeF t p b lv a now n = (0, 0, 6) := by
  rw [takeF, if_pos ⟨h, h0, h1⟩, if_pos h2]
theorem takeF_ok {t p b lv a now n : Int} (h : RT t p b lv a now) (h0 : 0 ≤ n) (h1 : n ≤ b) (h2 : n * p ≤ lvl t p b lv a now) : takeF t p b lv a now n = (lvl t p b lv a now - n * p, now, 0) := by
  rw [takeF, if_pos ⟨h, h0, h1⟩, if_neg (by omega)]
theorem RT.np {t p b lv a now n : Int} (h : RT t p b lv a now) (h0 : 0 ≤ n) (h1 : n ≤ b) : 0 ≤ n * p ∧ n * p ≤ b * p ∧ n * p ≤ 1099511562240 ∧ 1 ≤ p ∧ p ≤ 16777215 ∧ 1 ≤ t ∧ t ≤ 65536 := by
  have hm := h.1.1.most
  obtain ⟨⟨⟨_, _, _, _, _, _⟩, _⟩, _⟩ := h
  have h2 := Int.mul_le_mul_of_nonneg_right h1 (show 0 ≤ p by omega)
  have h3 := Int.mul_nonneg h0 (show 0 ≤ p by omega)
  refine ⟨h3, h2, by omega, by omega, by omega, by omega, by omega⟩
def within (m : Int) (xs : List Int) : Bool := xs.all fun n => decide (1 ≤ n ∧ n ≤ m)
theorem within_false {m : Int} {xs : List Int} {k : Nat} (hk : k < xs.length) (h : ¬ (1 ≤ xs[k] ∧ xs[k] ≤ m)) : within m xs = false := by
  simp only [within, List.all_eq_false, decide_eq_true_eq]
  exact ⟨xs[k], List.getElem_mem hk, h⟩
theorem within_true {m : Int} {xs : List Int} {k : Nat} (h : ∀ n ∈ xs.take k, 1 ≤ n ∧ n ≤ m) (hk : xs.length ≤ k) : within m xs = true := by
  rw [List.take_of_length_le hk] at h
  simpa [within] using h
theorem take_snoc {α : Type} {p : α → Prop} {xs : List α} {k : Nat} (hk : k < xs.length) (h : ∀ n ∈ xs.take k, p n) (hp : p xs[k]) : ∀ n ∈ xs.take (k + 1), p n := by
  rw [List.take_succ_eq_append_getElem hk]
  intro n hn
  rcases List.mem_append.1 hn with h' | h'
  · exact h n h'
  · simp at h'; subst h'; exact hp
end Go.Proofs.YtkhdejjompbklaaGreat.Sx
namespace Go.Proofs.YtkhdejjompbklaaGreat.Sx
open Go
theorem loopU {P : Program} {Q : Exit → Act → World → Prop} {a : Act} {w : World} {c : Code} (n : Nat) (h : c.wp P (Exit.then (Code.rounds P c Q n) Q) a w) : (Code.loop c).wp P Q a w := wp_loop_rounds (n + 1) h
theorem roundU {P : Program} {Q : Exit → Act → World → Prop} {a : Act} {w : World} {c : Code} {n : Nat} (h : c.wp P (Exit.then (Code.rounds P c Q n) Q) a w) : Code.rounds P c Q (n + 1) a w := h
end Go.Proofs.YtkhdejjompbklaaGreat.Sx
