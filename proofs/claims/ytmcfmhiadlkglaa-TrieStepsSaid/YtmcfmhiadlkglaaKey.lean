/-
  Keys and their digits. Nothing of a program stands here.
-/
import Derived.Test.YtmcfmhiadlkglaaBits
namespace Go.Proofs.Ytmcfmhiadlkglaa.Sx
open Go
set_option linter.unusedVariables false
/-- A key: protocol, source, destination, their ports. -/
abbrev Ky := Int × Int × Int × Int × Int
abbrev eK (k : Ky) : List Value := [.int .u8 k.1, .int .u32 k.2.1, .int .u32 k.2.2.1, .int .u16 k.2.2.2.1, .int .u16 k.2.2.2.2]
abbrev vK (k : Ky) : Value := .agg [.int .u8 k.1, .int .u32 k.2.1, .int .u32 k.2.2.1, .int .u16 k.2.2.2.1, .int .u16 k.2.2.2.2].toArray
structure WfK (k : Ky) : Prop where
  p : 0 ≤ k.1 ∧ k.1 ≤ 255
  s : 0 ≤ k.2.1 ∧ k.2.1 ≤ 4294967295
  d : 0 ≤ k.2.2.1 ∧ k.2.2.1 ≤ 4294967295
  a : 0 ≤ k.2.2.2.1 ∧ k.2.2.2.1 ≤ 65535
  b : 0 ≤ k.2.2.2.2 ∧ k.2.2.2.2 ≤ 65535
/-- The 13 bytes of a key. -/
def byts (k : Ky) : List Int :=
  [k.2.1 / 16777216 % 256, k.2.1 / 65536 % 256, k.2.1 / 256 % 256, k.2.1 % 256, k.2.2.1 / 16777216 % 256, k.2.2.1 / 65536 % 256, k.2.2.1 / 256 % 256, k.2.2.1 % 256, k.1 % 256,
   k.2.2.2.1 / 256 % 256, k.2.2.2.1 % 256, k.2.2.2.2 / 256 % 256, k.2.2.2.2 % 256]
theorem byts_bd {k : Ky} {j : Nat} {x : Int} (h : (byts k)[j]? = some x) : 0 ≤ x ∧ x ≤ 255 := by
  have hm := List.mem_of_getElem? h
  simp only [byts, List.mem_cons, List.not_mem_nil, or_false] at hm
  omega
/-- The i-th digit, and that of a place that is none. -/
def dig (k : Ky) (i : Nat) : Int := if i % 2 = 0 then (byts k)[i / 2]?.getD 0 / 16 % 16 else (byts k)[i / 2]?.getD 0 % 16
def digI (k : Ky) (i : Int) : Int := if 0 ≤ i ∧ i < 26 then dig k i.toNat else 0
theorem dig_bd (k : Ky) (i : Nat) : 0 ≤ dig k i ∧ dig k i < 16 := by
  unfold dig; split <;> omega
theorem dig_even {k : Ky} {j : Nat} {x : Int} (h : (byts k)[j]? = some x) : dig k (2 * j) = x / 16 % 16 := by
  unfold dig; rw [if_pos (by omega), show 2 * j / 2 = j from by omega, h]; rfl
theorem dig_odd {k : Ky} {j : Nat} {x : Int} (h : (byts k)[j]? = some x) : dig k (2 * j + 1) = x % 16 := by
  unfold dig; rw [if_neg (by omega), show (2 * j + 1) / 2 = j from by omega, h]; rfl
/-- All digits. -/
def dl (k : Ky) : List Int := (List.range 26).map (dig k)
theorem dl_len (k : Ky) : (dl k).length = 26 := by simp [dl]
theorem dl_get {k : Ky} {i : Nat} (h : i < 26) : (dl k)[i]? = some (dig k i) := by simp [dl, h]
theorem dl_take {k : Ky} {i : Nat} (h : i < 26) : (dl k).take (i + 1) = (dl k).take i ++ [dig k i] := by
  rw [List.take_succ_eq_append_getElem (by rw [dl_len]; exact h)]; simp [dl]
/-- Different keys have different digits. -/
theorem dl_inj {k k' : Ky} (h : WfK k) (h' : WfK k') (e : dl k = dl k') : k = k' := by
  have hd : ∀ i, i < 26 → dig k i = dig k' i := fun i hi => by
    have h1 := dl_get (k := k) hi
    rw [e, dl_get hi] at h1
    exact (Option.some.inj h1).symm
  have hb : ∀ j x y, j < 13 → (byts k)[j]? = some x → (byts k')[j]? = some y → x = y := fun j x y hj hx hy => by
    have h1 := hd (2 * j) (by omega)
    have h2 := hd (2 * j + 1) (by omega)
    rw [dig_even hx, dig_even hy] at h1
    rw [dig_odd hx, dig_odd hy] at h2
    have := byts_bd hx
    have := byts_bd hy
    omega
  obtain ⟨p, s, d, a, b⟩ := k
  obtain ⟨p', s', d', a', b'⟩ := k'
  have h0 := hb 0 _ _ (by omega) rfl rfl
  have h1 := hb 1 _ _ (by omega) rfl rfl
  have h2 := hb 2 _ _ (by omega) rfl rfl
  have h3 := hb 3 _ _ (by omega) rfl rfl
  have h4 := hb 4 _ _ (by omega) rfl rfl
  have h5 := hb 5 _ _ (by omega) rfl rfl
  have h6 := hb 6 _ _ (by omega) rfl rfl
  have h7 := hb 7 _ _ (by omega) rfl rfl
  have h8 := hb 8 _ _ (by omega) rfl rfl
  have h9 := hb 9 _ _ (by omega) rfl rfl
  have h10 := hb 10 _ _ (by omega) rfl rfl
  have h11 := hb 11 _ _ (by omega) rfl rfl
  have h12 := hb 12 _ _ (by omega) rfl rfl
  have q1 := h.p; have q2 := h.s; have q3 := h.d; have q4 := h.a; have q5 := h.b
  have r1 := h'.p; have r2 := h'.s; have r3 := h'.d; have r4 := h'.a; have r5 := h'.b
  dsimp only at *
  have e1 : p = p' := by omega
  have e2 : s = s' := by omega
  have e3 : d = d' := by omega
  have e4 : a = a' := by omega
  have e5 : b = b' := by omega
  subst e1 e2 e3 e4 e5
  rfl
end Go.Proofs.Ytmcfmhiadlkglaa.Sx
