/-
  What is gathered under a beginning; an element of an array that is a value, a store into an array. Nothing of a program stands here.
-/
import Derived.Test.YtmcfmhiadlkglaaTrie8
import Derived.Test.YtmcfmhiadlkglaaTrie7
namespace Go.Proofs.Ytmcfmhiadlkglaa.Sx
open Go
set_option linter.unusedVariables false
set_option linter.unusedSimpArgs false
section
variable {P : Program} {Q : Exit → Act → World → Prop} {n : Nat} {a : Act} {S : Slots} {l l' : List HP} {w : World} {t : TypeId} {pos : String} {af : Array Edge} {g : Option (Nat × Bool)} {K : Act → World → Prop} {T : TypeId}
/-- An element of an array of single cells that is a value. -/
theorem Yld.indexW {d : Nat} {ty e : TypeId} {x y : Operand} {cs : List Value} {len m : Nat} {v : Value} {z : TypeInfo} (hS : Has n a S) (hx : ev S x = some (.agg cs.toArray)) (hy : ev S y = some (.int .i64 (m : Int)))
    (hu : P.underlying ty = some (.array len e)) (hi : P.info? e = some z) (hz : z.size = 1) (ha : ∀ w, (isAgg e).run P w = .ok false w) (h1 : m < len) (hv : cs[m]? = some v) : Yld P a l ⟨some d, .index ty x y, t, pos, af, g⟩ v := by
  intro w _
  have hs : (sizeOf e).run P w = .ok z.size w := by simp [sizeOf, typeInfo, hi]
  have h2 : (0 : Int) ≤ (m : Int) ∧ (m : Int) < (len : Int) := by omega
  simp [execOp, hS.ev hx, hS.ev hy, Instr.index, asIntOf, run_underlying hu, h2, h1, ha, hs, hz, part, hv]
/-- A store into an array of bytes. -/
theorem BstoreB {ty : TypeId} {x y : Operand} {b k : Nat} {v : Int} {z : TypeInfo} {xs : List Int} {enc : Int → List Value} (he : ∀ x, enc x = [.int .u8 x]) (hS : Has n a S) (hR : Sep l w) (hx : ev S x = some (.pointer (some ⟨b, k, none⟩))) (hy : ev S y = some (.int .u8 v))
    (hi : P.info? ty = some z) (hz : z.size = 1) (p : Pk (Sx.blk b (xs.flatMap enc) T) l l') (hk : k < xs.length)
    (kk : ∀ w', Sep (Sx.blk b ((xs.set k v).flatMap enc) T :: l') w' → K a w') : Oper.wp P ⟨none, .store ty x y, t, pos, af, g⟩ a w K Q := by
  have hm : ∀ x, (enc x).length = 1 := fun x => by rw [he]; rfl
  have hl : (xs.flatMap enc).length = xs.length := by rw [flat_len hm, Nat.mul_one]
  refine Bstore (vs := [.int .u8 v]) hS hR hx hy rfl hi (by rw [hz]; rfl) p rfl (by rw [hl]; exact hk) fun w' h => kk w' ?_
  have e := laid_flat (enc := enc) (m := 1) hm (vs := [.int .u8 v]) (j := 0) (r' := v) (rs := xs) (k := k) hk (Nat.le_of_ble_eq_true rfl) (by rw [he, he]; rfl)
  rw [Nat.mul_one, Nat.add_zero] at e
  rw [← e]; exact h
end
theorem undX_le {c : List Int → Nat} {d : Nat} {p : List Int} : ∀ {x y : Nat}, x ≤ y → (undX c d p x).length ≤ (undX c d p y).length
  | x, 0, h => by
    have h0 : x = 0 := Nat.le_zero.1 h
    subst h0; exact Nat.le_refl _
  | x, y + 1, h => by
    by_cases e : x = y + 1
    · subst e; exact Nat.le_refl _
    · have h1 := undX_le (c := c) (d := d) (p := p) (x := x) (y := y) (by omega)
      rw [undX_succ, List.length_append]; omega
/-- The 16 places behind a node, as cells. -/
def kids (r : Nd) : List Value := (List.range 16).map fun j => .int .i64 (r.2.1 j)
theorem kids_len {r : Nd} : (kids r).length = 16 := by simp [kids]
theorem kids_part {r : Nd} : ((eN r).drop 1).take (kids r).length = kids r := by
  unfold eN
  rw [List.drop_succ_cons, List.drop_zero, kids_len]
  exact List.take_left' (by simp)
theorem kids_get {r : Nd} {x : Nat} (h : x < 16) : (kids r)[x]? = some (.int .i64 (r.2.1 x)) := by
  unfold kids; rw [List.getElem?_map, List.getElem?_range h]; rfl
theorem take_set {xs : List Int} {k : Nat} {x : Int} (h : k < xs.length) : (xs.set k x).take (k + 1) = xs.take k ++ [x] := by
  rw [List.take_succ_eq_append_getElem (by rw [List.length_set]; exact h), List.take_set_of_le (Nat.le_refl _), List.getElem_set_self]
theorem DigS.set {xs : List Int} {k : Nat} {x : Int} (h : DigS xs) (hx : 0 ≤ x ∧ x < 16) : DigS (xs.set k x) := by
  intro d hd
  rcases List.mem_or_eq_of_mem_set hd with hd | rfl
  · exact h d hd
  · exact hx
end Go.Proofs.Ytmcfmhiadlkglaa.Sx
