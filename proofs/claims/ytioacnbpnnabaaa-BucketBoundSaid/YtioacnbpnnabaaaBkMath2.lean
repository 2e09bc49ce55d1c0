/-
  Plain integers: laws of what the functions of package bucket compute. Nothing of a program stands here.
-/
import Derived.Test.YtioacnbpnnabaaaBkMath
namespace Go.Proofs.Ytioacnbpnnabaaa.Sx
set_option linter.unusedVariables false
/-- The remainder that 'modulo' answers. -/
theorem modulo_eq {n d : Int} (hd : 1 ≤ d) : (n.tmod d + d).tmod d = n % d := by
  have h1 := Int.lt_tmod_of_pos n (show 0 < d by omega)
  rw [Int.tmod_eq_emod_of_nonneg (by omega), Int.add_emod_right]
  have e := Int.mul_tdiv_add_tmod n d
  have : n.tmod d = n + d * (-(n.tdiv d)) := by rw [Int.mul_neg]; omega
  rw [this, Int.add_mul_emod_self_left]
/-- The rates of the statements. -/
def Md (t p b : Int) : Prop := 1 ≤ t ∧ t ≤ 100 ∧ 1 ≤ p ∧ p ≤ 1000 ∧ 1 ≤ b ∧ b ≤ 100
theorem Md.rr {t p b : Int} (h : Md t p b) : RR t p b := by unfold Md at h; unfold RR; omega
theorem Md.most {t p b : Int} (h : Md t p b) : 1 ≤ b * p ∧ b * p ≤ 100000 := by
  unfold Md at h
  have h1 := mulbd (a := b) (b := p) (A := 100) (B := 1000) (by omega) (by omega) (by omega) (by omega)
  have h2 := Int.mul_pos (show 0 < b by omega) (show 0 < p by omega)
  omega
theorem emod_bd {n d : Int} (h : 1 ≤ d) : 0 ≤ n % d ∧ n % d < d := ⟨Int.emod_nonneg _ (by omega), Int.emod_lt_of_pos _ (by omega)⟩
theorem Md.rb {t p b lv a : Int} (h : Md t p b) (h1 : 0 ≤ lv ∧ lv ≤ b * p) (h2 : 0 ≤ a ∧ a ≤ 1099511627776) : RB t p b lv a := ⟨h.rr, h1.1, h1.2, h2.1, h2.2⟩
theorem RT.rb {t p b lv a now : Int} (h : RT t p b lv a now) : RB t p b (lvl t p b lv a now) now := by
  have := lvl_bd h
  exact ⟨h.1.1, this.1, this.2.1, by have := h.1.2.2.2.1; have := h.2.1; omega, h.2.2⟩
theorem msplit (a b t : Int) : (a + b) * t = a * t + b * t := Int.add_mul a b t
theorem lvl_on {t p b lv a x y : Int} (ht : 0 ≤ t) (hx : 0 ≤ x) (hy : 0 ≤ y) : lvl t p b (lvl t p b lv a (a + x)) (a + x) (a + x + y) = lvl t p b lv a (a + x + y) := by
  have h1 := Int.mul_nonneg hx ht
  have h2 := Int.mul_nonneg hy ht
  unfold lvl
  rw [show a + x + y - (a + x) = y from by omega, show a + x - a = x from by omega, show a + x + y - a = x + y from by omega, msplit]
  omega
theorem lvl_ge0 {t p b lv a x : Int} (ht : 0 ≤ t) (hx : 0 ≤ x) (hl : lv ≤ b * p) : lv ≤ lvl t p b lv a (a + x) := by
  have h1 := Int.mul_nonneg hx ht
  unfold lvl
  rw [show a + x - a = x from by omega]
  omega
theorem lvl_1 {t p b lv a : Int} : lvl t p b lv a (a + 1) = min (lv + t) (b * p) := by
  unfold lvl; rw [show a + 1 - a = 1 from by omega, Int.one_mul]
theorem lvl_0 {t p b lv a : Int} (hl : lv ≤ b * p) : lvl t p b lv a a = lv := by
  unfold lvl; rw [Int.sub_self, Int.zero_mul]; omega
theorem lvl_plus {t p b lv a now x : Int} : lvl t p b lv a (now + x) = min (lv + (now - a) * t + x * t) (b * p) := by
  unfold lvl; rw [show now + x - a = (now - a) + x from by omega, msplit, Int.add_assoc]
section
variable {t p b lv a now k : Int}
theorem wait_iff (h : RT t p b lv a now) (h0 : 0 ≤ k) (h1 : k ≤ b) : cdiv (k * p - lvl t p b lv a now) t = 0 ↔ k ≤ lvl t p b lv a now / p := by
  obtain ⟨_, _, _, hp, _, ht, _⟩ := h.np h0 h1
  obtain ⟨c0, c1, c2⟩ := cdiv_up (n := k * p - lvl t p b lv a now) ht
  rw [Int.le_ediv_iff_mul_le (by omega)]
  constructor
  · intro e; rw [e, Int.zero_mul] at c1; omega
  · intro e
    rcases c2 with c2 | c2
    · exact c2
    · by_cases hz : cdiv (k * p - lvl t p b lv a now) t = 0
      · exact hz
      · have := Int.mul_nonneg (show 0 ≤ cdiv (k * p - lvl t p b lv a now) t - 1 by omega) (show 0 ≤ t by omega)
        omega
theorem wait_bd (h : RT t p b lv a now) (h0 : 0 ≤ k) (h1 : k ≤ b) : 0 ≤ cdiv (k * p - lvl t p b lv a now) t ∧ cdiv (k * p - lvl t p b lv a now) t ≤ b * p := by
  obtain ⟨n0, n1, n2, hp, _, ht, _⟩ := h.np h0 h1
  have hl := lvl_bd h
  obtain ⟨c0, c1, c2⟩ := cdiv_up (n := k * p - lvl t p b lv a now) ht
  refine ⟨c0, ?_⟩
  rcases c2 with c2 | c2
  · omega
  · by_cases hz : cdiv (k * p - lvl t p b lv a now) t = 0
    · omega
    · have := Int.mul_le_mul_of_nonneg_left ht (show 0 ≤ cdiv (k * p - lvl t p b lv a now) t - 1 by omega)
      omega
theorem take_after {x : Int} (h : RT t p b lv a now) (h0 : 0 ≤ k) (h1 : k ≤ b) (hx : cdiv (k * p - lvl t p b lv a now) t = x) (hm : now + x ≤ 1099511627776) :
    takeF t p b lv a (now + x) k = (lvl t p b lv a (now + x) - k * p, now + x, 0) ∧ (0 < x → lvl t p b lv a (now + x) - k * p < t) := by
  obtain ⟨n0, n1, n2, hp, _, ht, _⟩ := h.np h0 h1
  have hl := lvl_bd h
  obtain ⟨c0, c1, c2⟩ := cdiv_up (n := k * p - lvl t p b lv a now) ht
  rw [hx] at c0 c1 c2
  have hT : RT t p b lv a (now + x) := ⟨h.1, by have := h.2.1; omega, hm⟩
  have e := lvl_plus (t := t) (p := p) (b := b) (lv := lv) (a := a) (now := now) (x := x)
  have e0 : lvl t p b lv a now = min (lv + (now - a) * t) (b * p) := rfl
  have hxt := Int.mul_nonneg c0 (show 0 ≤ t by omega)
  refine ⟨takeF_ok hT h0 h1 (by omega), fun hx0 => ?_⟩
  have c3 : (x - 1) * t < k * p - lvl t p b lv a now := by rcases c2 with c2 | c2 <;> omega
  have e4 : (x - 1) * t = x * t - t := by rw [Int.sub_mul, Int.one_mul]
  have h5 := Int.mul_nonneg (show 0 ≤ x - 1 by omega) (show 0 ≤ t by omega)
  omega
theorem take_before {x : Int} (h : RT t p b lv a now) (h0 : 0 ≤ k) (h1 : k ≤ b) (hx : cdiv (k * p - lvl t p b lv a now) t = x) (hm : now + x ≤ 1099511627776) (hx0 : x ≠ 0) :
    takeF t p b lv a (now + x - 1) k = (0, 0, 6) := by
  obtain ⟨n0, n1, n2, hp, _, ht, _⟩ := h.np h0 h1
  have hl := lvl_bd h
  obtain ⟨c0, c1, c2⟩ := cdiv_up (n := k * p - lvl t p b lv a now) ht
  rw [hx] at c0 c1 c2
  have hT : RT t p b lv a (now + x - 1) := ⟨h.1, by have := h.2.1; omega, by omega⟩
  have e := lvl_plus (t := t) (p := p) (b := b) (lv := lv) (a := a) (now := now) (x := x - 1)
  rw [show now + (x - 1) = now + x - 1 from by omega] at e
  have e0 : lvl t p b lv a now = min (lv + (now - a) * t) (b * p) := rfl
  have c3 : (x - 1) * t < k * p - lvl t p b lv a now := by rcases c2 with c2 | c2 <;> omega
  have h5 := Int.mul_nonneg (show 0 ≤ x - 1 by omega) (show 0 ≤ t by omega)
  exact takeF_none hT h0 h1 (by omega)
theorem take_cases (h : RT t p b lv a now) (h0 : 0 ≤ k) (h1 : k ≤ b) :
    (lvl t p b lv a now < k * p ∧ takeF t p b lv a now k = (0, 0, 6)) ∨ (k * p ≤ lvl t p b lv a now ∧ takeF t p b lv a now k = (lvl t p b lv a now - k * p, now, 0)) := by
  by_cases hc : lvl t p b lv a now < k * p
  · exact .inl ⟨hc, takeF_none h h0 h1 hc⟩
  · exact .inr ⟨by omega, takeF_ok h h0 h1 (by omega)⟩
theorem take_err (h : RT t p b lv a now) (h0 : 0 ≤ k) (h1 : k ≤ b) (he : (takeF t p b lv a now k).2.2 ≠ 0) : lvl t p b lv a now < k * p ∧ takeF t p b lv a now k = (0, 0, 6) := by
  rcases take_cases h h0 h1 with c | ⟨_, c⟩
  · exact c
  · rw [c] at he; exact absurd rfl he
theorem take_fine (h : RT t p b lv a now) (h0 : 0 ≤ k) (h1 : k ≤ b) (he : (takeF t p b lv a now k).2.2 = 0) : k * p ≤ lvl t p b lv a now ∧ takeF t p b lv a now k = (lvl t p b lv a now - k * p, now, 0) := by
  rcases take_cases h h0 h1 with ⟨_, c⟩ | c
  · rw [c] at he; simp at he
  · exact c
theorem take_rt (h : RT t p b lv a now) (h0 : 0 ≤ k) (h1 : k ≤ b) (hk : k * p ≤ lvl t p b lv a now) : RT t p b (lvl t p b lv a now - k * p) now now := by
  have hl := lvl_bd h
  obtain ⟨n0, n1, n2, hp, _, ht, _⟩ := h.np h0 h1
  have := h.rb
  exact ⟨⟨h.1.1, by omega, by omega, this.2.2.2.1, this.2.2.2.2⟩, by omega, h.2.2⟩
theorem take_two {m : Int} (h : RT t p b lv a now) (h0 : 0 ≤ k) (h1 : k ≤ b) (hk : k * p ≤ lvl t p b lv a now) (m0 : 0 ≤ m) (m1 : k + m ≤ b) :
    takeF t p b (lvl t p b lv a now - k * p) now now m = takeF t p b lv a now (k + m) := by
  have hl := lvl_bd h
  obtain ⟨n0, n1, n2, hp, _, ht, _⟩ := h.np h0 h1
  have hT := take_rt h h0 h1 hk
  have e : lvl t p b (lvl t p b lv a now - k * p) now now = lvl t p b lv a now - k * p := lvl_0 (by omega)
  have e2 : (k + m) * p = k * p + m * p := Int.add_mul _ _ _
  rcases take_cases hT m0 (by omega) with ⟨c1, c2⟩ | ⟨c1, c2⟩ <;> rcases take_cases h (k := k + m) (by omega) m1 with ⟨c3, c4⟩ | ⟨c3, c4⟩ <;> rw [c2, c4] <;> rw [e] at * <;> first | rfl | omega | (rw [e2]; congr 1; omega)
end
end Go.Proofs.Ytioacnbpnnabaaa.Sx
