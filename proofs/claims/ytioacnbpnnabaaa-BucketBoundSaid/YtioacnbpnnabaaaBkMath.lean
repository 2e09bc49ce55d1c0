/-
  Plain integers: what the functions of package bucket and of its reference compute. Nothing of a program stands here.
-/
import Derived.Test.YtioacnbpnnabaaaSep
namespace Go.Proofs.Ytioacnbpnnabaaa.Sx
set_option linter.unusedVariables false
theorem mulbd {a b A B : Int} (h0 : 0 ≤ a) (h1 : a ≤ A) (k0 : 0 ≤ b) (k1 : b ≤ B) : 0 ≤ a * b ∧ a * b ≤ A * B :=
  ⟨Int.mul_nonneg h0 k0, Int.mul_le_mul h1 k1 k0 (by omega)⟩

/-- A right rate. -/
def RR (t p b : Int) : Prop := 1 ≤ t ∧ t ≤ 65536 ∧ 1 ≤ p ∧ p ≤ 16777215 ∧ 1 ≤ b ∧ b ≤ 65536
instance (t p b : Int) : Decidable (RR t p b) := by unfold RR; infer_instance
/-- A right bucket. -/
def RB (t p b lv a : Int) : Prop := RR t p b ∧ 0 ≤ lv ∧ lv ≤ b * p ∧ 0 ≤ a ∧ a ≤ 1099511627776
instance (t p b lv a : Int) : Decidable (RB t p b lv a) := by unfold RB; infer_instance
/-- A right bucket at a later time. -/
def RT (t p b lv a now : Int) : Prop := RB t p b lv a ∧ a ≤ now ∧ now ≤ 1099511627776
instance (t p b lv a now : Int) : Decidable (RT t p b lv a now) := by unfold RT; infer_instance
theorem RR.most {t p b : Int} (h : RR t p b) : 0 ≤ b * p ∧ b * p ≤ 1099511562240 := by
  obtain ⟨_, _, _, _, _, _⟩ := h
  have := mulbd (a := b) (b := p) (A := 65536) (B := 16777215) (by omega) (by omega) (by omega) (by omega)
  exact ⟨this.1, by omega⟩
/-- The level at a later time. -/
def lvl (t p b lv a now : Int) : Int := min (lv + (now - a) * t) (b * p)
theorem RT.bd {t p b lv a now : Int} (h : RT t p b lv a now) : 0 ≤ (now - a) * t ∧ (now - a) * t ≤ 72057594037927936 ∧ 0 ≤ lv ∧ lv ≤ 1099511562240 ∧ 0 ≤ b * p ∧ b * p ≤ 1099511562240 := by
  obtain ⟨⟨hr, h1, h2, h3, h4⟩, h5, h6⟩ := h
  have hm := hr.most
  obtain ⟨_, _, _, _, _, _⟩ := hr
  have := mulbd (a := now - a) (b := t) (A := 1099511627776) (B := 65536) (by omega) (by omega) (by omega) (by omega)
  exact ⟨this.1, by omega, h1, by omega, hm⟩
theorem lvl_bd {t p b lv a now : Int} (h : RT t p b lv a now) : 0 ≤ lvl t p b lv a now ∧ lvl t p b lv a now ≤ b * p ∧ b * p ≤ 1099511562240 := by
  have := h.bd
  unfold lvl
  omega
/-- n divided by t, rounded up (n from 0 on). -/
def cdiv (n t : Int) : Int := (max n 0 + t - 1) / t
theorem cdiv_spec {n t k : Int} (ht : 1 ≤ t) (hk : 0 ≤ k) (h1 : n ≤ k * t) (h2 : k = 0 ∨ (k - 1) * t < n) : cdiv n t = k := by
  unfold cdiv
  by_cases hz : k = 0
  · subst hz
    have : max n 0 = 0 := by omega
    rw [this]
    exact Int.ediv_eq_zero_of_lt (by omega) (by omega)
  · have h2 : (k - 1) * t < n := by rcases h2 with h2 | h2 <;> first | exact absurd h2 hz | exact h2
    have h0 : 0 ≤ (k - 1) * t := Int.mul_nonneg (by omega) (by omega)
    have hn : max n 0 = n := by omega
    rw [hn]
    have e : (k - 1) * t = k * t - t := by rw [Int.sub_mul, Int.one_mul]
    have h3 : n + t - 1 = (n + t - 1 - k * t) + k * t := by omega
    rw [h3, Int.add_mul_ediv_right _ _ (by omega), Int.ediv_eq_zero_of_lt (by omega) (by omega)]
    omega
theorem cdiv_up {n t : Int} (ht : 1 ≤ t) : 0 ≤ cdiv n t ∧ n ≤ cdiv n t * t ∧ (cdiv n t = 0 ∨ (cdiv n t - 1) * t < n) := by
  have h0 : 0 ≤ cdiv n t := Int.ediv_nonneg (by omega) (by omega)
  have e := Int.mul_ediv_add_emod (max n 0 + t - 1) t
  have l := Int.emod_lt_of_pos (max n 0 + t - 1) (show 0 < t by omega)
  have l0 := Int.emod_nonneg (max n 0 + t - 1) (show t ≠ 0 by omega)
  have c : t * ((max n 0 + t - 1) / t) = cdiv n t * t := Int.mul_comm _ _
  refine ⟨h0, by omega, ?_⟩
  by_cases hz : cdiv n t = 0
  · exact .inl hz
  · right
    have e2 : (cdiv n t - 1) * t = cdiv n t * t - t := by rw [Int.sub_mul, Int.one_mul]
    have : t ≤ cdiv n t * t := by
      have := Int.mul_le_mul_of_nonneg_right (show 1 ≤ cdiv n t by omega) (show 0 ≤ t by omega)
      omega
    omega
theorem lvl_ge {t p b lv a now : Int} (h : RT t p b lv a now) (hc : cdiv (b * p - lv) t ≤ now - a) : lvl t p b lv a now = b * p := by
  have ht : 1 ≤ t := h.1.1.1
  obtain ⟨h0, h1, _⟩ := cdiv_up (n := b * p - lv) ht
  have := Int.mul_le_mul_of_nonneg_right hc (show 0 ≤ t by omega)
  unfold lvl; omega
theorem lvl_lt {t p b lv a now : Int} (h : RT t p b lv a now) (hc : now - a < cdiv (b * p - lv) t) : lvl t p b lv a now = lv + (now - a) * t := by
  have ht : 1 ≤ t := h.1.1.1
  have h5 : a ≤ now := h.2.1
  obtain ⟨h0, _, h2⟩ := cdiv_up (n := b * p - lv) ht
  have h3 : (cdiv (b * p - lv) t - 1) * t < b * p - lv := by rcases h2 with h2 | h2 <;> omega
  have := Int.mul_le_mul_of_nonneg_right (show now - a ≤ cdiv (b * p - lv) t - 1 by omega) (show 0 ≤ t by omega)
  unfold lvl; omega
/-! ### what the functions answer: the parts of a bucket, and the number of the error -/
def fullF (t p b now : Int) : Int × Int × Int := if RR t p b ∧ 0 ≤ now ∧ now ≤ 1099511627776 then (b * p, now, 0) else (0, 0, 2)
def fillF (t p b lv a now : Int) : Int × Int × Int := if RT t p b lv a now then (lvl t p b lv a now, now, 0) else (0, 0, 2)
def tokF (t p b lv a now : Int) : Int × Int := if RT t p b lv a now then (lvl t p b lv a now / p, 0) else (0, 2)
def takeF (t p b lv a now n : Int) : Int × Int × Int :=
  if RT t p b lv a now ∧ 0 ≤ n ∧ n ≤ b then (if lvl t p b lv a now < n * p then (0, 0, 6) else (lvl t p b lv a now - n * p, now, 0)) else (0, 0, 2)
def waitF (t p b lv a now n : Int) : Int × Int := if RT t p b lv a now ∧ 0 ≤ n ∧ n ≤ b then (cdiv (n * p - lvl t p b lv a now) t, 0) else (0, 2)

theorem fillF_pos {t p b lv a now : Int} (h : RT t p b lv a now) : fillF t p b lv a now = (lvl t p b lv a now, now, 0) := by rw [fillF, if_pos h]
theorem fillF_neg {t p b lv a now : Int} (h : ¬ RT t p b lv a now) : fillF t p b lv a now = (0, 0, 2) := by rw [fillF, if_neg h]
theorem fillF_ok {t p b lv a now : Int} (h : (fillF t p b lv a now).2.2 = 0) : RT t p b lv a now := by
  by_cases h' : RT t p b lv a now
  · exact h'
  · rw [fillF_neg h'] at h; simp at h
theorem fillF_no {t p b lv a now : Int} (h : ¬ (fillF t p b lv a now).2.2 = 0) : ¬ RT t p b lv a now := fun h' => h (by rw [fillF_pos h'])
theorem tokF_pos {t p b lv a now : Int} (h : RT t p b lv a now) : tokF t p b lv a now = (lvl t p b lv a now / p, 0) := by rw [tokF, if_pos h]
theorem tokF_neg {t p b lv a now : Int} (h : ¬ RT t p b lv a now) : tokF t p b lv a now = (0, 2) := by rw [tokF, if_neg h]
theorem tokF_ok {t p b lv a now : Int} (h : (tokF t p b lv a now).2 = 0) : RT t p b lv a now := by
  by_cases h' : RT t p b lv a now
  · exact h'
  · rw [tokF_neg h'] at h; simp at h
theorem tokF_no {t p b lv a now : Int} (h : ¬ (tokF t p b lv a now).2 = 0) : ¬ RT t p b lv a now := fun h' => h (by rw [tokF_pos h'])
theorem sub_mod_div {x p : Int} (hp : 1 ≤ p) : (x - x % p) / p = x / p := by
  have e := Int.mul_ediv_add_emod x p
  have : x - x % p = p * (x / p) := by omega
  rw [this, Int.mul_ediv_cancel_left _ (by omega)]
theorem div_lt {x p n : Int} (hp : 1 ≤ p) : x / p < n ↔ x < n * p := Int.ediv_lt_iff_lt_mul (by omega)
theorem takeF_no {t p b lv a now n : Int} (h : ¬ RT t p b lv a now ∨ n < 0 ∨ b < n) : takeF t p b lv a now n = (0, 0, 2) := by
  rw [takeF, if_neg]; rintro ⟨h1, h2, h3⟩; rcases h with h | h | h <;> first | contradiction | omega
theorem takeF_none {t p b lv a now n : Int} (h : RT t p b lv a now) (h0 : 0 ≤ n) (h1 : n ≤ b) (h2 : lvl t p b lv a now < n * p) : takeF t p b lv a now n = (0, 0, 6) := by
  rw [takeF, if_pos ⟨h, h0, h1⟩, if_pos h2]
theorem takeF_ok {t p b lv a now n : Int} (h : RT t p b lv a now) (h0 : 0 ≤ n) (h1 : n ≤ b) (h2 : n * p ≤ lvl t p b lv a now) : takeF t p b lv a now n = (lvl t p b lv a now - n * p, now, 0) := by
  rw [takeF, if_pos ⟨h, h0, h1⟩, if_neg (by omega)]
theorem waitF_no {t p b lv a now n : Int} (h : ¬ RT t p b lv a now ∨ n < 0 ∨ b < n) : waitF t p b lv a now n = (0, 2) := by
  rw [waitF, if_neg]; rintro ⟨h1, h2, h3⟩; rcases h with h | h | h <;> first | contradiction | omega
theorem waitF_ok {t p b lv a now n : Int} (h : RT t p b lv a now) (h0 : 0 ≤ n) (h1 : n ≤ b) : waitF t p b lv a now n = (cdiv (n * p - lvl t p b lv a now) t, 0) := by
  rw [waitF, if_pos ⟨h, h0, h1⟩]
theorem RT.np {t p b lv a now n : Int} (h : RT t p b lv a now) (h0 : 0 ≤ n) (h1 : n ≤ b) : 0 ≤ n * p ∧ n * p ≤ b * p ∧ n * p ≤ 1099511562240 ∧ 1 ≤ p ∧ p ≤ 16777215 ∧ 1 ≤ t ∧ t ≤ 65536 := by
  have hm := h.1.1.most
  obtain ⟨⟨⟨_, _, _, _, _, _⟩, _⟩, _⟩ := h
  have h2 := Int.mul_le_mul_of_nonneg_right h1 (show 0 ≤ p by omega)
  have h3 := Int.mul_nonneg h0 (show 0 ≤ p by omega)
  refine ⟨h3, h2, by omega, by omega, by omega, by omega, by omega⟩

def within (m : Int) (xs : List Int) : Bool := xs.all fun n => decide (1 ≤ n ∧ n ≤ m)
theorem within_false {m : Int} {xs : List Int} {k : Nat} (hk : k < xs.length) (h : ¬ (1 ≤ xs[k] ∧ xs[k] ≤ m)) : within m xs = false := by
  simp only [within, List.all_eq_false, decide_eq_true_eq]
  exact ⟨xs[k], List.getElem_mem hk, h⟩
theorem within_true {m : Int} {xs : List Int} {k : Nat} (h : ∀ n ∈ xs.take k, 1 ≤ n ∧ n ≤ m) (hk : xs.length ≤ k) : within m xs = true := by
  rw [List.take_of_length_le hk] at h
  simpa [within] using h
theorem take_snoc {α : Type} {p : α → Prop} {xs : List α} {k : Nat} (hk : k < xs.length) (h : ∀ n ∈ xs.take k, p n) (hp : p xs[k]) : ∀ n ∈ xs.take (k + 1), p n := by
  rw [List.take_succ_eq_append_getElem hk]
  intro n hn
  rcases List.mem_append.1 hn with h' | h'
  · exact h n h'
  · simp at h'; subst h'; exact hp
theorem dec_no {p : Prop} [Decidable p] (h : ¬ p) : Go.Value.bool false = .bool (decide p) := by simp [h]
theorem dec_yes {p : Prop} [Decidable p] (h : p) : Go.Value.bool true = .bool (decide p) := by simp [h]
theorem dec_iff {p q : Prop} [Decidable p] [Decidable q] (h : p ↔ q) : Go.Value.bool (decide p) = .bool (decide q) := by simp [h]
end Go.Proofs.Ytioacnbpnnabaaa.Sx
