/-
  Keys with another digit. Nothing of a program stands here.
-/
import Derived.Test.YtmcfmhiadlkglaaTrie15
namespace Go.Proofs.Ytmcfmhiadlkglaa.Sx
open Go
set_option linter.unusedVariables false
set_option linter.unusedSimpArgs false
theorem xor_dig (a b t : Nat) : (a ^^^ b) / 16 ^ t % 16 = (a / 16 ^ t % 16) ^^^ (b / 16 ^ t % 16) := by
  have e : (16 : Nat) ^ t = 2 ^ (4 * t) := by rw [Nat.pow_mul]
  rw [e, ← Nat.shiftRight_eq_div_pow, ← Nat.shiftRight_eq_div_pow, ← Nat.shiftRight_eq_div_pow, Nat.shiftRight_xor_distrib, show (16 : Nat) = 2 ^ 4 from rfl, Nat.xor_mod_two_pow]
theorem xor_high (a x m t : Nat) (hx : x < 16) (h : m < t) : (a ^^^ x * 16 ^ m) / 16 ^ t % 16 = a / 16 ^ t % 16 := by
  have h1 : x * 16 ^ m < 16 ^ t := by
    have h2 : (16 : Nat) ^ (m + 1) ≤ 16 ^ t := Nat.pow_le_pow_right (by omega) h
    have h3 : x * 16 ^ m < 16 * 16 ^ m := Nat.mul_lt_mul_of_pos_right hx (Nat.pow_pos (by omega))
    rw [Nat.pow_succ] at h2; omega
  rw [xor_dig, Nat.div_eq_of_lt h1, Nat.zero_mod, Nat.xor_zero]
theorem xor_here (a x m : Nat) (hx : x < 16) : (a ^^^ x * 16 ^ m) / 16 ^ m % 16 = (a / 16 ^ m % 16) ^^^ x := by
  rw [xor_dig, Nat.mul_div_cancel _ (Nat.pow_pos (by omega)), Nat.mod_eq_of_lt hx]
theorem xor_lt {a b n : Nat} (ha : a < 2 ^ n) (hb : b < 2 ^ n) : a ^^^ b < 2 ^ n := Nat.xor_lt_two_pow ha hb
theorem xor8 {a b : Nat} (ha : a < 256) (hb : b < 256) : bitsOf .xor .u8 (a : Int) (b : Int) = ((a ^^^ b : Nat) : Int) := by
  have h := xor_lt (n := 8) ha hb
  show IntKind.u8.wrap _ = _
  rw [IntKind.wrap_u8, BitVec.toNat_xor, BitVec.toNat_ofInt, BitVec.toNat_ofInt]
  show ((((a : Int) % 256).toNat ^^^ ((b : Int) % 256).toNat : Nat) : Int) % 256 = _
  rw [show ((a : Int) % 256).toNat = a from by omega, show ((b : Int) % 256).toNat = b from by omega]
  omega
theorem xor16 {a b : Nat} (ha : a < 65536) (hb : b < 65536) : bitsOf .xor .u16 (a : Int) (b : Int) = ((a ^^^ b : Nat) : Int) := by
  have h := xor_lt (n := 16) ha hb
  show IntKind.u16.wrap _ = _
  rw [IntKind.wrap_u16, BitVec.toNat_xor, BitVec.toNat_ofInt, BitVec.toNat_ofInt]
  show ((((a : Int) % 65536).toNat ^^^ ((b : Int) % 65536).toNat : Nat) : Int) % 65536 = _
  rw [show ((a : Int) % 65536).toNat = a from by omega, show ((b : Int) % 65536).toNat = b from by omega]
  omega
theorem xor32 {a b : Nat} (ha : a < 4294967296) (hb : b < 4294967296) : bitsOf .xor .u32 (a : Int) (b : Int) = ((a ^^^ b : Nat) : Int) := by
  have h := xor_lt (n := 32) ha hb
  show IntKind.u32.wrap _ = _
  rw [IntKind.wrap_u32, BitVec.toNat_xor, BitVec.toNat_ofInt, BitVec.toNat_ofInt]
  show ((((a : Int) % 4294967296).toNat ^^^ ((b : Int) % 4294967296).toNat : Nat) : Int) % 4294967296 = _
  rw [show ((a : Int) % 4294967296).toNat = a from by omega, show ((b : Int) % 4294967296).toNat = b from by omega]
  omega
/-- The key with the n-th digit changed by x. -/
def withK (k : Ky) (n x : Nat) : Ky :=
  if n < 8 then (k.1, ((k.2.1.toNat ^^^ x * 16 ^ (7 - n) : Nat) : Int), k.2.2)
  else if n < 16 then (k.1, k.2.1, ((k.2.2.1.toNat ^^^ x * 16 ^ (15 - n) : Nat) : Int), k.2.2.2)
  else if n < 18 then (((k.1.toNat ^^^ x * 16 ^ (17 - n) : Nat) : Int), k.2)
  else if n < 22 then (k.1, k.2.1, k.2.2.1, ((k.2.2.2.1.toNat ^^^ x * 16 ^ (21 - n) : Nat) : Int), k.2.2.2.2)
  else (k.1, k.2.1, k.2.2.1, k.2.2.2.1, ((k.2.2.2.2.toNat ^^^ x * 16 ^ (25 - n) : Nat) : Int))
section
variable {k : Ky}
theorem dig_s (h : WfK k) {i : Nat} (hi : i < 8) : dig k i = ((k.2.1.toNat / 16 ^ (7 - i) % 16 : Nat) : Int) := by
  have q := h.s
  have hc : i = 0 ∨ i = 1 ∨ i = 2 ∨ i = 3 ∨ i = 4 ∨ i = 5 ∨ i = 6 ∨ i = 7 := by omega
  rcases hc with rfl | rfl | rfl | rfl | rfl | rfl | rfl | rfl <;> simp [dig, byts] <;> omega
theorem dig_d (h : WfK k) {i : Nat} (h8 : 8 ≤ i) (hi : i < 16) : dig k i = ((k.2.2.1.toNat / 16 ^ (15 - i) % 16 : Nat) : Int) := by
  have q := h.d
  have hc : i = 8 ∨ i = 9 ∨ i = 10 ∨ i = 11 ∨ i = 12 ∨ i = 13 ∨ i = 14 ∨ i = 15 := by omega
  rcases hc with rfl | rfl | rfl | rfl | rfl | rfl | rfl | rfl <;> simp [dig, byts] <;> omega
theorem dig_p (h : WfK k) {i : Nat} (h8 : 16 ≤ i) (hi : i < 18) : dig k i = ((k.1.toNat / 16 ^ (17 - i) % 16 : Nat) : Int) := by
  have q := h.p
  have hc : i = 16 ∨ i = 17 := by omega
  rcases hc with rfl | rfl <;> simp [dig, byts] <;> omega
theorem dig_a (h : WfK k) {i : Nat} (h8 : 18 ≤ i) (hi : i < 22) : dig k i = ((k.2.2.2.1.toNat / 16 ^ (21 - i) % 16 : Nat) : Int) := by
  have q := h.a
  have hc : i = 18 ∨ i = 19 ∨ i = 20 ∨ i = 21 := by omega
  rcases hc with rfl | rfl | rfl | rfl <;> simp [dig, byts] <;> omega
theorem dig_b (h : WfK k) {i : Nat} (h8 : 22 ≤ i) (hi : i < 26) : dig k i = ((k.2.2.2.2.toNat / 16 ^ (25 - i) % 16 : Nat) : Int) := by
  have q := h.b
  have hc : i = 22 ∨ i = 23 ∨ i = 24 ∨ i = 25 := by omega
  rcases hc with rfl | rfl | rfl | rfl <;> simp [dig, byts] <;> omega
theorem mul16 {x m w : Nat} (hx : x < 16) (hm : m < w) : x * 16 ^ m < 16 ^ w := by
  have h2 : (16 : Nat) ^ (m + 1) ≤ 16 ^ w := Nat.pow_le_pow_right (by omega) hm
  have h3 : x * 16 ^ m < 16 * 16 ^ m := Nat.mul_lt_mul_of_pos_right hx (Nat.pow_pos (by omega))
  rw [Nat.pow_succ] at h2; omega
theorem withK_wf (h : WfK k) {n x : Nat} (hx : x < 16) : WfK (withK k n x) := by
  have q1 := h.p; have q2 := h.s; have q3 := h.d; have q4 := h.a; have q5 := h.b
  unfold withK
  split
  · have := xor_lt (n := 32) (a := k.2.1.toNat) (b := x * 16 ^ (7 - n)) (by omega) (mul16 (w := 8) hx (by omega))
    exact ⟨q1, by dsimp only; omega, q3, q4, q5⟩
  split
  · have := xor_lt (n := 32) (a := k.2.2.1.toNat) (b := x * 16 ^ (15 - n)) (by omega) (mul16 (w := 8) hx (by omega))
    exact ⟨q1, q2, by dsimp only; omega, q4, q5⟩
  split
  · have := xor_lt (n := 8) (a := k.1.toNat) (b := x * 16 ^ (17 - n)) (by omega) (mul16 (w := 2) hx (by omega))
    exact ⟨by dsimp only; omega, q2, q3, q4, q5⟩
  split
  · have := xor_lt (n := 16) (a := k.2.2.2.1.toNat) (b := x * 16 ^ (21 - n)) (by omega) (mul16 (w := 4) hx (by omega))
    exact ⟨q1, q2, q3, by dsimp only; omega, q5⟩
  · have := xor_lt (n := 16) (a := k.2.2.2.2.toNat) (b := x * 16 ^ (25 - n)) (by omega) (mul16 (w := 4) hx (by omega))
    exact ⟨q1, q2, q3, q4, by dsimp only; omega⟩
theorem withK_dig (h : WfK k) {n x : Nat} (hx : x < 16) (hn : n < 26) : (∀ j, j < n → dig (withK k n x) j = dig k j) ∧ dig (withK k n x) n = (((dig k n).toNat ^^^ x : Nat) : Int) := by
  have hw := withK_wf h (n := n) hx
  unfold withK at hw ⊢
  split at hw
  · rename_i h1
    rw [if_pos h1]
    refine ⟨fun j hj => ?_, ?_⟩
    · rw [dig_s hw (by omega), dig_s h (by omega)]; dsimp only; rw [Int.toNat_natCast, xor_high _ _ _ _ hx (by omega)]
    · rw [dig_s hw (by omega), dig_s h (by omega)]; dsimp only; rw [Int.toNat_natCast, xor_here _ _ _ hx, Int.toNat_natCast]
  split at hw
  · rename_i h1 h2
    rw [if_neg h1, if_pos h2]
    refine ⟨fun j hj => ?_, ?_⟩
    · by_cases hj1 : j < 8
      · rw [dig_s hw hj1, dig_s h hj1]
      · rw [dig_d hw (by omega) (by omega), dig_d h (by omega) (by omega)]; dsimp only; rw [Int.toNat_natCast, xor_high _ _ _ _ hx (by omega)]
    · rw [dig_d hw (by omega) (by omega), dig_d h (by omega) (by omega)]; dsimp only; rw [Int.toNat_natCast, xor_here _ _ _ hx, Int.toNat_natCast]
  split at hw
  · rename_i h1 h2 h3
    rw [if_neg h1, if_neg h2, if_pos h3]
    refine ⟨fun j hj => ?_, ?_⟩
    · by_cases hj1 : j < 8
      · rw [dig_s hw hj1, dig_s h hj1]
      · by_cases hj2 : j < 16
        · rw [dig_d hw (by omega) hj2, dig_d h (by omega) hj2]
        · rw [dig_p hw (by omega) (by omega), dig_p h (by omega) (by omega)]; dsimp only; rw [Int.toNat_natCast, xor_high _ _ _ _ hx (by omega)]
    · rw [dig_p hw (by omega) (by omega), dig_p h (by omega) (by omega)]; dsimp only; rw [Int.toNat_natCast, xor_here _ _ _ hx, Int.toNat_natCast]
  split at hw
  · rename_i h1 h2 h3 h4
    rw [if_neg h1, if_neg h2, if_neg h3, if_pos h4]
    refine ⟨fun j hj => ?_, ?_⟩
    · by_cases hj1 : j < 8
      · rw [dig_s hw hj1, dig_s h hj1]
      · by_cases hj2 : j < 16
        · rw [dig_d hw (by omega) hj2, dig_d h (by omega) hj2]
        · by_cases hj3 : j < 18
          · rw [dig_p hw (by omega) hj3, dig_p h (by omega) hj3]
          · rw [dig_a hw (by omega) (by omega), dig_a h (by omega) (by omega)]; dsimp only; rw [Int.toNat_natCast, xor_high _ _ _ _ hx (by omega)]
    · rw [dig_a hw (by omega) (by omega), dig_a h (by omega) (by omega)]; dsimp only; rw [Int.toNat_natCast, xor_here _ _ _ hx, Int.toNat_natCast]
  · rename_i h1 h2 h3 h4
    rw [if_neg h1, if_neg h2, if_neg h3, if_neg h4]
    refine ⟨fun j hj => ?_, ?_⟩
    · by_cases hj1 : j < 8
      · rw [dig_s hw hj1, dig_s h hj1]
      · by_cases hj2 : j < 16
        · rw [dig_d hw (by omega) hj2, dig_d h (by omega) hj2]
        · by_cases hj3 : j < 18
          · rw [dig_p hw (by omega) hj3, dig_p h (by omega) hj3]
          · by_cases hj4 : j < 22
            · rw [dig_a hw (by omega) hj4, dig_a h (by omega) hj4]
            · rw [dig_b hw (by omega) (by omega), dig_b h (by omega) (by omega)]; dsimp only; rw [Int.toNat_natCast, xor_high _ _ _ _ hx (by omega)]
    · rw [dig_b hw (by omega) (by omega), dig_b h (by omega) (by omega)]; dsimp only; rw [Int.toNat_natCast, xor_here _ _ _ hx, Int.toNat_natCast]
/-- The key with the digit d at the place n. -/
def withD (k : Ky) (n d : Nat) : Ky := withK k n ((dig k n).toNat ^^^ d)
theorem dx_lt {n d : Nat} (hd : d < 16) : (dig k n).toNat ^^^ d < 16 := by
  have := dig_bd k n
  exact Nat.xor_lt_two_pow (n := 4) (by omega) hd
theorem withD_wf (h : WfK k) {n d : Nat} (hd : d < 16) : WfK (withD k n d) := withK_wf h (dx_lt hd)
theorem withD_dl (h : WfK k) {n d : Nat} (hn : n < 26) (hd : d < 16) : (dl (withD k n d)).take (n + 1) = (dl k).take n ++ [(d : Int)] := by
  have hx := withK_dig h (x := (dig k n).toNat ^^^ d) (dx_lt (k := k) (n := n) hd) hn
  rw [dl_take hn, (take_alike (a := withD k n d) (b := k) (by omega)).2 hx.1]
  unfold withD
  rw [hx.2, ← Nat.xor_assoc, Nat.xor_self, Nat.zero_xor]
theorem dx8 {n d : Nat} (hd : d < 16) : bitsOf .xor .u8 (dig k n) (d : Int) = (((dig k n).toNat ^^^ d : Nat) : Int) := by
  have := dig_bd k n
  obtain ⟨m, hm⟩ : ∃ m : Nat, dig k n = (m : Int) := ⟨(dig k n).toNat, by omega⟩
  rw [hm, Int.toNat_natCast]
  exact xor8 (by omega) (by omega)
end
theorem pow16 (m : Nat) : (2 : Int) ^ (4 * m) = ((16 ^ m : Nat) : Int) := by
  rw [Int.pow_mul, Int.natCast_pow]; rfl
theorem sh32 {x m : Nat} (hx : x < 16) (hm : m < 8) : IntKind.u32.wrap ((x : Int) * ((16 ^ m : Nat) : Int)) = ((x * 16 ^ m : Nat) : Int) := by
  have h : x * 16 ^ m < 4294967296 := mul16 (w := 8) hx hm
  rw [← Int.natCast_mul]
  exact IntWalk.u32_in _ (by omega)
theorem fx32 {a : Int} {b : Nat} (ha : 0 ≤ a ∧ a ≤ 4294967295) (hb : b < 4294967296) : bitsOf .xor .u32 a (b : Int) = ((a.toNat ^^^ b : Nat) : Int) := by
  obtain ⟨m, rfl⟩ : ∃ m : Nat, a = (m : Int) := ⟨a.toNat, by omega⟩
  rw [Int.toNat_natCast]; exact xor32 (by omega) hb
theorem fx16 {a : Int} {b : Nat} (ha : 0 ≤ a ∧ a ≤ 65535) (hb : b < 65536) : bitsOf .xor .u16 a (b : Int) = ((a.toNat ^^^ b : Nat) : Int) := by
  obtain ⟨m, rfl⟩ : ∃ m : Nat, a = (m : Int) := ⟨a.toNat, by omega⟩
  rw [Int.toNat_natCast]; exact xor16 (by omega) hb
theorem fx8 {a : Int} {b : Nat} (ha : 0 ≤ a ∧ a ≤ 255) (hb : b < 256) : bitsOf .xor .u8 a (b : Int) = ((a.toNat ^^^ b : Nat) : Int) := by
  obtain ⟨m, rfl⟩ : ∃ m : Nat, a = (m : Int) := ⟨a.toNat, by omega⟩
  rw [Int.toNat_natCast]; exact xor8 (by omega) hb
end Go.Proofs.Ytmcfmhiadlkglaa.Sx
