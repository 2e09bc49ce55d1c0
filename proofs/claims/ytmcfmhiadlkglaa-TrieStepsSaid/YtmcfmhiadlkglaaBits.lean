/-
  Shifts and bits as steps of a walk. Nothing of a program stands here.
-/
import Derived.Test.YtmcfmhiadlkglaaAuto
namespace Go.Proofs.Ytmcfmhiadlkglaa.Sx
open Go
set_option linter.unusedVariables false
section
variable {P : Program} {n : Nat} {a : Act} {S : Slots} {l : List HP} {d : Option Nat} {t : TypeId} {pos : String} {af : Array Edge} {g : Option (Nat × Bool)} {x y : Operand} {ty ty' : TypeId} {k k' : IntKind} {p q c : Int}
theorem Yld.shrL (m : Nat) (M : Int) (hS : Has n a S) (hx : ev S x = some (.int k p)) (hy : ev S y = some (.int k' c)) (hc : c = (m : Int)) (hm : m ≤ k.bits) (hM : (2 : Int) ^ m = M) :
    Yld P a l ⟨d, .binOp .shr ty x y ty', t, pos, af, g⟩ (.int k (p / M)) := by
  intro w _
  subst hc hM
  have h0 : ¬ ((m : Int) < 0) := by omega
  have h1 : p.fdiv (2 ^ m) = p / 2 ^ m := Int.fdiv_eq_ediv_of_nonneg _ (Int.pow_nonneg (by omega))
  simp [execOp, hS.ev hx, hS.ev hy, eqGuard, binOp, Op.shift, h0, Nat.min_eq_left hm, h1]
theorem Yld.shlL (m : Nat) (M : Int) (hS : Has n a S) (hx : ev S x = some (.int k p)) (hy : ev S y = some (.int k' c)) (hc : c = (m : Int)) (hm : m ≤ k.bits) (hM : (2 : Int) ^ m = M) :
    Yld P a l ⟨d, .binOp .shl ty x y ty', t, pos, af, g⟩ (.int k (k.wrap (p * M))) := by
  intro w _
  subst hc hM
  have h0 : ¬ ((m : Int) < 0) := by omega
  simp [execOp, hS.ev hx, hS.ev hy, eqGuard, binOp, Op.shift, h0, Nat.min_eq_left hm]
def bitsOf (op : BinOp) (k : IntKind) (p q : Int) : Int :=
  match op with
  | .and => k.wrap (BitVec.ofInt k.bits p &&& BitVec.ofInt k.bits q).toNat
  | .or => k.wrap (BitVec.ofInt k.bits p ||| BitVec.ofInt k.bits q).toNat
  | _ => k.wrap (BitVec.ofInt k.bits p ^^^ BitVec.ofInt k.bits q).toNat
theorem Yld.and (hS : Has n a S) (hx : ev S x = some (.int k p)) (hy : ev S y = some (.int k q)) : Yld P a l ⟨d, .binOp .and ty x y ty', t, pos, af, g⟩ (.int k (bitsOf .and k p q)) :=
  fun w _ => by simp [execOp, hS.ev hx, hS.ev hy, eqGuard, binOp, Op.intBits, bitsOf]
theorem Yld.or (hS : Has n a S) (hx : ev S x = some (.int k p)) (hy : ev S y = some (.int k q)) : Yld P a l ⟨d, .binOp .or ty x y ty', t, pos, af, g⟩ (.int k (bitsOf .or k p q)) :=
  fun w _ => by simp [execOp, hS.ev hx, hS.ev hy, eqGuard, binOp, Op.intBits, bitsOf]
theorem Yld.xor2 (hS : Has n a S) (hx : ev S x = some (.int k p)) (hy : ev S y = some (.int k q)) : Yld P a l ⟨d, .binOp .xor ty x y ty', t, pos, af, g⟩ (.int k (bitsOf .xor k p q)) :=
  fun w _ => by simp [execOp, hS.ev hx, hS.ev hy, eqGuard, binOp, Op.intBits, bitsOf]
theorem Yld.xor (hS : Has n a S) (hx : ev S x = some (.int k p)) : Yld P a l ⟨d, .unOp .xor ty x, t, pos, af, g⟩ (.int k (bitsOf .xor k (if k.signed then -1 else k.max) p)) :=
  fun w _ => by simp [execOp, hS.ev hx, Op.unary, Op.intBits, bitsOf]
end
theorem bits32 {op : BinOp} {a b : Int} : 0 ≤ bitsOf op .u32 a b ∧ bitsOf op .u32 a b ≤ 4294967295 := by
  unfold bitsOf
  split <;> rw [IntKind.wrap_u32] <;> omega
theorem and15 {p : Int} (h : 0 ≤ p ∧ p ≤ 255) : bitsOf .and .u8 p 15 = p % 16 := by
  obtain ⟨m, rfl⟩ : ∃ m : Nat, p = m := ⟨p.toNat, by omega⟩
  have h1 : m < 256 := by omega
  have h2 : (BitVec.ofInt 8 (m : Int) &&& BitVec.ofInt 8 15).toNat = m % 16 := by
    have h3 : (BitVec.ofInt 8 (m : Int)).toNat = m := by
      rw [BitVec.toNat_ofInt]; omega
    rw [BitVec.toNat_and, h3]
    show m &&& 15 = m % 16
    exact Nat.and_two_pow_sub_one_eq_mod m 4
  have h4 : bitsOf .and .u8 (m : Int) 15 = IntKind.u8.wrap ((BitVec.ofInt 8 (m : Int) &&& BitVec.ofInt 8 15).toNat : Int) := rfl
  rw [h4, h2, IntWalk.u8_in _ (by omega)]
  omega
end Go.Proofs.Ytmcfmhiadlkglaa.Sx
