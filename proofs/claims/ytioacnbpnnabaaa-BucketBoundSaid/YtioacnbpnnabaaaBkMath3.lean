/-
  Buckets whose tokens and period are multiplied by the same number. Plain integers; nothing of a program stands here.
-/
import Derived.Test.YtioacnbpnnabaaaBkMath
namespace Go.Proofs.Ytioacnbpnnabaaa.Sx
theorem lvl_scale {t p b lv a now f : Int} (h0 : 0 ≤ f) : lvl (t * f) (p * f) b (lv * f) a now = lvl t p b lv a now * f := by
  unfold lvl
  rw [← Int.mul_assoc b p f, ← Int.mul_assoc (now - a) t f, ← Int.add_mul]
  rcases Int.le_total (lv + (now - a) * t) (b * p) with h | h
  · rw [Int.min_eq_left h, Int.min_eq_left (Int.mul_le_mul_of_nonneg_right h h0)]
  · rw [Int.min_eq_right h, Int.min_eq_right (Int.mul_le_mul_of_nonneg_right h h0)]
theorem RT.scale {t p b lv a now f : Int} (h : RT t p b lv a now) (h1 : 1 ≤ f) (ht : t * f ≤ 65536) (hp : p * f ≤ 16777215) : RT (t * f) (p * f) b (lv * f) a now := by
  obtain ⟨⟨⟨a1, a2, a3, a4, a5, a6⟩, b1, b2, b3⟩, c1⟩ := h
  have e1 : 1 * 1 ≤ t * f := Int.mul_le_mul a1 h1 (by omega) (by omega)
  have e2 : 1 * 1 ≤ p * f := Int.mul_le_mul a3 h1 (by omega) (by omega)
  refine ⟨⟨⟨by omega, ht, by omega, hp, a5, a6⟩, Int.mul_nonneg b1 (by omega), ?_, b3⟩, c1⟩
  rw [← Int.mul_assoc]
  exact Int.mul_le_mul_of_nonneg_right b2 (by omega)
theorem take_scale {t p b lv a now f n : Int} (h : RT t p b lv a now) (h1 : 1 ≤ f) (ht : t * f ≤ 65536) (hp : p * f ≤ 16777215) (n0 : 0 ≤ n) (n1 : n ≤ b) :
    ∃ L A E, takeF t p b lv a now n = (L, A, E) ∧ takeF (t * f) (p * f) b (lv * f) a now n = (L * f, A, E) ∧ (E = 0 ∧ RB t p b L A ∧ A = now ∨ E = 6) ∧ 0 ≤ L ∧ L ≤ b * p := by
  have h' := h.scale h1 ht hp
  have hb := lvl_bd h
  have hn := h.np n0 n1
  by_cases hc : lvl t p b lv a now < n * p
  · refine ⟨0, 0, 6, takeF_none h n0 n1 hc, ?_, .inr rfl, by omega, by omega⟩
    rw [takeF_none h' n0 n1, Int.zero_mul]
    rw [lvl_scale (by omega), ← Int.mul_assoc]
    exact Int.mul_lt_mul_of_pos_right hc (by omega)
  · refine ⟨lvl t p b lv a now - n * p, now, 0, takeF_ok h n0 n1 (by omega), ?_, .inl ⟨rfl, ⟨h.1.1, by omega, by omega, by have := h.2; have := h.1.2.2.2.1; omega, h.2.2⟩, rfl⟩, by omega, by omega⟩
    rw [takeF_ok h' n0 n1, lvl_scale (by omega), ← Int.mul_assoc, Int.sub_mul]
    rw [lvl_scale (by omega), ← Int.mul_assoc]
    exact Int.mul_le_mul_of_nonneg_right (by omega) (by omega)
theorem full_scale {t p b f now : Int} (h : RR t p b) (h1 : 1 ≤ f) (ht : t * f ≤ 65536) (hp : p * f ≤ 16777215) (n0 : 0 ≤ now) (n1 : now ≤ 1099511627776) : fullF (t * f) (p * f) b now = (b * p * f, now, 0) := by
  obtain ⟨a1, a2, a3, a4, a5, a6⟩ := h
  have e1 : 1 * 1 ≤ t * f := Int.mul_le_mul a1 h1 (by omega) (by omega)
  have e2 : 1 * 1 ≤ p * f := Int.mul_le_mul a3 h1 (by omega) (by omega)
  rw [fullF, if_pos ⟨⟨by omega, ht, by omega, hp, a5, a6⟩, n0, n1⟩, ← Int.mul_assoc]
theorem full_ok {t p b now : Int} (h : RR t p b) (n0 : 0 ≤ now) (n1 : now ≤ 1099511627776) : fullF t p b now = (b * p, now, 0) := by
  rw [fullF, if_pos ⟨h, n0, n1⟩]
end Go.Proofs.Ytioacnbpnnabaaa.Sx
