/-
  Keys from their digits; a part of an array as a slice. Nothing of a program stands here.
-/
import Derived.Test.YtmcfmhiadlkglaaKey
import Derived.Test.YtmcfmhiadlkglaaInts
namespace Go.Proofs.Ytmcfmhiadlkglaa.Sx
open Go
set_option linter.unusedVariables false
set_option linter.unusedSimpArgs false
section
variable {P : Program} {n : Nat} {a : Act} {S : Slots} {l : List HP} {dd : Option Nat} {t : TypeId} {pos : String} {af : Array Edge} {g : Option (Nat × Bool)}
/-- A part of an array, from place lo on, that does not end the array or begins it. -/
theorem Yld.sliceA {ty e : TypeId} {x y z : Operand} {b len lo hi : Nat} {i : TypeInfo} (hS : Has n a S) (hx : ev S x = some (.pointer (some ⟨b, 0, none⟩))) (hy : ev S y = some (.int .i64 (lo : Int))) (hz : ev S z = some (.int .i64 (hi : Int)))
    (hu : P.underlying ty = some (.array len e)) (hi' : P.info? e = some i) (hsz : i.size = 1) (h1 : lo ≤ hi) (h2 : hi ≤ len) (h3 : lo < len) :
    Yld P a l ⟨dd, .slice ty x (some y) (some z) none, t, pos, af, g⟩ (.slice (some ⟨b, lo, none⟩) (hi - lo) (len - lo)) := by
  intro w _
  have hs : (sizeOf e).run P w = .ok i.size w := by simp [sizeOf, typeInfo, hi']
  have h5 : ¬ len = lo := by omega
  simp [execOp, hS.ev hx, hS.ev hy, hS.ev hz, Instr.sliceAt, Instr.sureAddr, run_underlying hu, Instr.sliceBounds, Instr.sliceBound, asIntOf, hs, hsz, h1, h2, h5, Addr.add_lit]
end
theorem or16 {x d : Int} (hx : 0 ≤ x ∧ x * 16 ≤ 4294967295) (hd : 0 ≤ d ∧ d < 16) : bitsOf .or .u32 (x * 16) d = x * 16 + d := by
  obtain ⟨m, rfl⟩ : ∃ m : Nat, x = m := ⟨x.toNat, by omega⟩
  obtain ⟨e, rfl⟩ : ∃ m : Nat, d = m := ⟨d.toNat, by omega⟩
  have h1 : (BitVec.ofInt 32 ((m : Int) * 16)).toNat = 2 ^ 4 * m := by
    rw [BitVec.toNat_ofInt]; omega
  have h2 : (BitVec.ofInt 32 (e : Int)).toNat = e := by
    rw [BitVec.toNat_ofInt]; omega
  have h3 : (BitVec.ofInt 32 ((m : Int) * 16) ||| BitVec.ofInt 32 (e : Int)).toNat = 2 ^ 4 * m + e := by
    rw [BitVec.toNat_or, h1, h2, Nat.two_pow_add_eq_or_of_lt (by omega)]
  have h4 : bitsOf .or .u32 ((m : Int) * 16) (e : Int) = IntKind.u32.wrap ((BitVec.ofInt 32 ((m : Int) * 16) ||| BitVec.ofInt 32 (e : Int)).toNat : Int) := rfl
  rw [h4, h3, IntWalk.u32_in _ (by omega)]
  omega
/-- The number that digits make. -/
def num (ds : List Int) : Int := ds.foldl (fun x d => x * 16 + d) 0
theorem num_snoc {ds : List Int} {d : Int} : num (ds ++ [d]) = num ds * 16 + d := by simp [num]
def DigS (ds : List Int) : Prop := ∀ d ∈ ds, 0 ≤ d ∧ d < 16
theorem num_bd : ∀ {m : Nat} {ds : List Int}, DigS ds → ds.length = m → 0 ≤ num ds ∧ num ds < 16 ^ m
  | 0, ds, _, h => by
    have : ds = [] := List.eq_nil_of_length_eq_zero h
    subst this; exact ⟨by decide, by decide⟩
  | m + 1, ds, hd, h => by
    obtain ⟨es, d, rfl⟩ : ∃ es d, ds = es ++ [d] := by
      have hne : ds ≠ [] := by intro e; subst e; simp at h
      exact ⟨ds.dropLast, ds.getLast hne, (List.dropLast_concat_getLast hne).symm⟩
    have h1 := num_bd (m := m) (ds := es) (fun x hx => hd x (List.mem_append.2 (.inl hx))) (by simp at h; omega)
    have h2 := hd d (by simp)
    rw [num_snoc, Int.pow_succ]
    omega
/-- Digits from a place on. -/
def seg (ds : List Int) (f m : Nat) : List Int := (ds.drop f).take m
theorem seg_len {ds : List Int} {f m : Nat} (h : f + m ≤ ds.length) : (seg ds f m).length = m := by unfold seg; rw [List.length_take, List.length_drop]; omega
theorem seg_dig {ds : List Int} {f m : Nat} (h : DigS ds) : DigS (seg ds f m) := fun d hd => h d (List.mem_of_mem_drop (List.mem_of_mem_take hd))
theorem seg_next {ds : List Int} {f k : Nat} (h : f + k < ds.length) : seg ds f (k + 1) = seg ds f k ++ [ds[f + k]] := by
  unfold seg
  rw [List.take_succ_eq_append_getElem (by rw [List.length_drop]; omega), List.getElem_drop]
theorem num_lt {ds : List Int} (hd : DigS ds) (h : ds.length < 8) : 0 ≤ num ds ∧ num ds < 268435456 := by
  obtain ⟨m, hm⟩ : ∃ m, ds.length = m := ⟨_, rfl⟩
  have h1 := num_bd hd hm
  obtain rfl | rfl | rfl | rfl | rfl | rfl | rfl | rfl : m = 0 ∨ m = 1 ∨ m = 2 ∨ m = 3 ∨ m = 4 ∨ m = 5 ∨ m = 6 ∨ m = 7 := by omega
  all_goals omega
def keyD (ds : List Int) : Ky := (num (seg ds 16 2), num (seg ds 0 8), num (seg ds 8 8), num (seg ds 18 4), num (seg ds 22 4))
theorem dl_dig (k : Ky) : DigS (dl k) := by
  intro d hd
  unfold dl at hd
  obtain ⟨i, _, rfl⟩ := List.mem_map.1 hd
  exact dig_bd k i
theorem keyD_wf {ds : List Int} (h : DigS ds) (hl : ds.length = 26) : WfK (keyD ds) := by
  have h1 := num_bd (seg_dig (f := 16) (m := 2) h) (seg_len (by omega))
  have h2 := num_bd (seg_dig (f := 0) (m := 8) h) (seg_len (by omega))
  have h3 := num_bd (seg_dig (f := 8) (m := 8) h) (seg_len (by omega))
  have h4 := num_bd (seg_dig (f := 18) (m := 4) h) (seg_len (by omega))
  have h5 := num_bd (seg_dig (f := 22) (m := 4) h) (seg_len (by omega))
  unfold keyD
  constructor <;> dsimp only <;> omega
theorem keyD_dl {k : Ky} (h : WfK k) : keyD (dl k) = k := by
  obtain ⟨p, s, d, a, b⟩ := k
  have q1 := h.p; have q2 := h.s; have q3 := h.d; have q4 := h.a; have q5 := h.b
  dsimp only at q1 q2 q3 q4 q5
  have e1 : num (seg (dl (p, s, d, a, b)) 16 2) = p := by
    show ((0 * 16 + p % 256 / 16 % 16) * 16 + p % 256 % 16 : Int) = p
    omega
  have e2 : num (seg (dl (p, s, d, a, b)) 0 8) = s := by
    show ((((((((0 * 16 + s / 16777216 % 256 / 16 % 16) * 16 + s / 16777216 % 256 % 16) * 16 + s / 65536 % 256 / 16 % 16) * 16 + s / 65536 % 256 % 16) * 16 + s / 256 % 256 / 16 % 16) * 16 + s / 256 % 256 % 16) * 16 + s % 256 / 16 % 16) * 16 + s % 256 % 16 : Int) = s
    omega
  have e3 : num (seg (dl (p, s, d, a, b)) 8 8) = d := by
    show ((((((((0 * 16 + d / 16777216 % 256 / 16 % 16) * 16 + d / 16777216 % 256 % 16) * 16 + d / 65536 % 256 / 16 % 16) * 16 + d / 65536 % 256 % 16) * 16 + d / 256 % 256 / 16 % 16) * 16 + d / 256 % 256 % 16) * 16 + d % 256 / 16 % 16) * 16 + d % 256 % 16 : Int) = d
    omega
  have e4 : num (seg (dl (p, s, d, a, b)) 18 4) = a := by
    show ((((0 * 16 + a / 256 % 256 / 16 % 16) * 16 + a / 256 % 256 % 16) * 16 + a % 256 / 16 % 16) * 16 + a % 256 % 16 : Int) = a
    omega
  have e5 : num (seg (dl (p, s, d, a, b)) 22 4) = b := by
    show ((((0 * 16 + b / 256 % 256 / 16 % 16) * 16 + b / 256 % 256 % 16) * 16 + b % 256 / 16 % 16) * 16 + b % 256 % 16 : Int) = b
    omega
  unfold keyD
  rw [e1, e2, e3, e4, e5]
/-! ### what lies under a beginning -/
/-- All digits under a beginning, as far as c counts keys there, in order. -/
def undL (c : List Int → Nat) : Nat → List Int → List (List Int)
  | 0, p => [p]
  | d + 1, p => (List.range 16).flatMap fun x : Nat => if 0 < c (p ++ [(x : Int)]) then undL c d (p ++ [(x : Int)]) else []
/-- The same, with the digits below x alone. -/
def undX (c : List Int → Nat) (d : Nat) (p : List Int) (x : Nat) : List (List Int) := (List.range x).flatMap fun x : Nat => if 0 < c (p ++ [(x : Int)]) then undL c d (p ++ [(x : Int)]) else []
theorem undX_succ {c : List Int → Nat} {d : Nat} {p : List Int} {x : Nat} : undX c d p (x + 1) = undX c d p x ++ if 0 < c (p ++ [(x : Int)]) then undL c d (p ++ [(x : Int)]) else [] := by
  unfold undX
  rw [List.range_succ, List.flatMap_append]
  simp
theorem undX_all {c : List Int → Nat} {d : Nat} {p : List Int} : undX c d p 16 = undL c (d + 1) p := rfl
end Go.Proofs.Ytmcfmhiadlkglaa.Sx
