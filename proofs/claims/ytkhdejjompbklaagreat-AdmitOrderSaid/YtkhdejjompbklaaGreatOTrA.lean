/-
 
-/
import Derived.Test.YtkhdejjompbklaaGreatOLkF
import Derived.Test.YtkhdejjompbklaaGreatOPb
namespace Go.Proofs.YtkhdejjompbklaaGreat.Sx
open Go
set_option maxRecDepth 20000
set_option linter.unusedVariables false
set_option linter.unusedSimpArgs false
theorem info5 : Tryz.prog.info? 5 = some Tryz.t5 := by kernel_rfl
theorem info25 : Tryz.prog.info? 25 = some Tryz.t25 := by kernel_rfl
theorem info158 : Tryz.prog.info? 158 = some Tryz.t158 := by kernel_rfl
theorem info160 : Tryz.prog.info? 160 = some Tryz.t160 := by kernel_rfl
theorem info228 : Tryz.prog.info? 228 = some Tryz.t228 := by kernel_rfl
theorem bld228_0_1_2_3_4_5_6_7_8_9_10_11_12 (x0 : Int) (x1 : Int) (x2 : Int) (x3 : Int) (x4 : Int) (x5 : Int) (x6 : Int) (x7 : Int) (x8 : Int) (x9 : Int) (x10 : Int) (x11 : Int) (x12 : Int) (w : World) : (Instr.build 228 [(0, .int .u8 x0), (1, .int .u8 x1), (2, .int .u8 x2), (3, .int .u8 x3), (4, .int .u8 x4), (5, .int .u8 x5), (6, .int .u8 x6), (7, .int .u8 x7), (8, .int .u8 x8), (9, .int .u8 x9), (10, .int .u8 x10), (11, .int .u8 x11), (12, .int .u8 x12)].toArray).run Tryz.prog w = .ok (.agg [.int .u8 x0, .int .u8 x1, .int .u8 x2, .int .u8 x3, .int .u8 x4, .int .u8 x5, .int .u8 x6, .int .u8 x7, .int .u8 x8, .int .u8 x9, .int .u8 x10, .int .u8 x11, .int .u8 x12].toArray) w := by kernel_rfl
def eB (x : Int) : List Value := [.int .u8 x]
theorem Digit_ok {k : Ky} {i : Int} {l : List HP} {w : World} (hR : Sep l w) (hk : WfK k) : CallR Tryz.prog 146 [vK k, .int .i64 i] w (fun v w' => v = .int .u8 (digI k i) ∧ Sep l w') := by
 refine enter Tryz.func146 rfl Tryz.ntmps146 (Nat.le_of_ble_eq_true rfl) ?_; intro aa hS
 have q1 := hk.p
 refine wp_seq_k ?_; intro K301 hK301
 refine wp_region_lit ?_
 refine sB (Bbox hS hR rfl (by rfl) (by decide) ?_); clear hS hR; intro aa ww bb2 hS hR
 revert aa
 refine qN hR ?_
 intro aa hS
 refine wpList_nil ?_
 refine hK301 _ _ ?_
 refine wp_seq_k ?_; intro K302 hK302
 refine wp_region_lit ?_
 revert aa
 refine qA hR rfl (fun _ hS => Yld.fieldAddr hS rfl 1 Tryz.underlying160 rfl rfl info25 (by decide)) ?_
 refine qA hR rfl (fun _ hS => Yld.load1 hS rfl Tryz.underlying25 rfl rdQ) ?_
 refine qA hR rfl (fun _ hS => Yld.shrL 24 16777216 hS rfl rfl rfl (by decide) (by decide)) ?_
 refine qA hR rfl (fun _ hS => Yld.to (Yld.convInt hS rfl rfl Tryz.underlying5) (congrArg (Value.int .u8) (IntKind.wrap_u8 _))) ?_
 refine qA hR rfl (fun _ hS => Yld.fieldAddr hS rfl 1 Tryz.underlying160 rfl rfl info25 (by decide)) ?_
 refine qA hR rfl (fun _ hS => Yld.load1 hS rfl Tryz.underlying25 rfl rdQ) ?_
 refine qA hR rfl (fun _ hS => Yld.shrL 16 65536 hS rfl rfl rfl (by decide) (by decide)) ?_
 refine qA hR rfl (fun _ hS => Yld.to (Yld.convInt hS rfl rfl Tryz.underlying5) (congrArg (Value.int .u8) (IntKind.wrap_u8 _))) ?_
 refine qA hR rfl (fun _ hS => Yld.fieldAddr hS rfl 1 Tryz.underlying160 rfl rfl info25 (by decide)) ?_
 refine qA hR rfl (fun _ hS => Yld.load1 hS rfl Tryz.underlying25 rfl rdQ) ?_
 refine qA hR rfl (fun _ hS => Yld.shrL 8 256 hS rfl rfl rfl (by decide) (by decide)) ?_
 refine qA hR rfl (fun _ hS => Yld.to (Yld.convInt hS rfl rfl Tryz.underlying5) (congrArg (Value.int .u8) (IntKind.wrap_u8 _))) ?_
 refine qA hR rfl (fun _ hS => Yld.fieldAddr hS rfl 1 Tryz.underlying160 rfl rfl info25 (by decide)) ?_
 refine qA hR rfl (fun _ hS => Yld.load1 hS rfl Tryz.underlying25 rfl rdQ) ?_
 refine qA hR rfl (fun _ hS => Yld.to (Yld.convInt hS rfl rfl Tryz.underlying5) (congrArg (Value.int .u8) (IntKind.wrap_u8 _))) ?_
 refine qA hR rfl (fun _ hS => Yld.fieldAddr hS rfl 2 Tryz.underlying160 rfl rfl info25 (by decide)) ?_
 refine qA hR rfl (fun _ hS => Yld.load1 hS rfl Tryz.underlying25 rfl rdQ) ?_
 refine qA hR rfl (fun _ hS => Yld.shrL 24 16777216 hS rfl rfl rfl (by decide) (by decide)) ?_
 refine qA hR rfl (fun _ hS => Yld.to (Yld.convInt hS rfl rfl Tryz.underlying5) (congrArg (Value.int .u8) (IntKind.wrap_u8 _))) ?_
 refine qA hR rfl (fun _ hS => Yld.fieldAddr hS rfl 2 Tryz.underlying160 rfl rfl info25 (by decide)) ?_
 refine qA hR rfl (fun _ hS => Yld.load1 hS rfl Tryz.underlying25 rfl rdQ) ?_
 refine qA hR rfl (fun _ hS => Yld.shrL 16 65536 hS rfl rfl rfl (by decide) (by decide)) ?_
 refine qA hR rfl (fun _ hS => Yld.to (Yld.convInt hS rfl rfl Tryz.underlying5) (congrArg (Value.int .u8) (IntKind.wrap_u8 _))) ?_
 refine qA hR rfl (fun _ hS => Yld.fieldAddr hS rfl 2 Tryz.underlying160 rfl rfl info25 (by decide)) ?_
 refine qA hR rfl (fun _ hS => Yld.load1 hS rfl Tryz.underlying25 rfl rdQ) ?_
 refine qA hR rfl (fun _ hS => Yld.shrL 8 256 hS rfl rfl rfl (by decide) (by decide)) ?_
 refine qA hR rfl (fun _ hS => Yld.to (Yld.convInt hS rfl rfl Tryz.underlying5) (congrArg (Value.int .u8) (IntKind.wrap_u8 _))) ?_
 refine qA hR rfl (fun _ hS => Yld.fieldAddr hS rfl 2 Tryz.underlying160 rfl rfl info25 (by decide)) ?_
 refine qA hR rfl (fun _ hS => Yld.load1 hS rfl Tryz.underlying25 rfl rdQ) ?_
 refine qA hR rfl (fun _ hS => Yld.to (Yld.convInt hS rfl rfl Tryz.underlying5) (congrArg (Value.int .u8) (IntKind.wrap_u8 _))) ?_
 refine qA hR rfl (fun _ hS => Yld.fieldAddr hS rfl 0 Tryz.underlying160 rfl rfl info5 (by decide)) ?_
 refine qA hR rfl (fun _ hS => Yld.load1 hS rfl Tryz.underlying5 rfl rdQ) ?_
 refine qA hR rfl (fun _ hS => Yld.fieldAddr hS rfl 3 Tryz.underlying160 rfl rfl info158 (by decide)) ?_
 refine qA hR rfl (fun _ hS => Yld.load1 hS rfl Tryz.underlying158 rfl rdQ) ?_
 refine qA hR rfl (fun _ hS => Yld.shrL 8 256 hS rfl rfl rfl (by decide) (by decide)) ?_
 refine qA hR rfl (fun _ hS => Yld.to (Yld.convInt hS rfl rfl Tryz.underlying5) (congrArg (Value.int .u8) (IntKind.wrap_u8 _))) ?_
 refine qA hR rfl (fun _ hS => Yld.fieldAddr hS rfl 3 Tryz.underlying160 rfl rfl info158 (by decide)) ?_
 refine qA hR rfl (fun _ hS => Yld.load1 hS rfl Tryz.underlying158 rfl rdQ) ?_
 refine qA hR rfl (fun _ hS => Yld.to (Yld.convInt hS rfl rfl Tryz.underlying5) (congrArg (Value.int .u8) (IntKind.wrap_u8 _))) ?_
 refine qA hR rfl (fun _ hS => Yld.fieldAddr hS rfl 4 Tryz.underlying160 rfl rfl info158 (by decide)) ?_
 refine qA hR rfl (fun _ hS => Yld.load1 hS rfl Tryz.underlying158 rfl rdQ) ?_
 refine qA hR rfl (fun _ hS => Yld.shrL 8 256 hS rfl rfl rfl (by decide) (by decide)) ?_
 refine qA hR rfl (fun _ hS => Yld.to (Yld.convInt hS rfl rfl Tryz.underlying5) (congrArg (Value.int .u8) (IntKind.wrap_u8 _))) ?_
 refine qA hR rfl (fun _ hS => Yld.fieldAddr hS rfl 4 Tryz.underlying160 rfl rfl info158 (by decide)) ?_
 refine qA hR rfl (fun _ hS => Yld.load1 hS rfl Tryz.underlying158 rfl rdQ) ?_
 refine qA hR rfl (fun _ hS => Yld.to (Yld.convInt hS rfl rfl Tryz.underlying5) (congrArg (Value.int .u8) (IntKind.wrap_u8 _))) ?_
 refine qA hR rfl (fun _ hS => Yld.build hS rfl (bld228_0_1_2_3_4_5_6_7_8_9_10_11_12 _ _ _ _ _ _ _ _ _ _ _ _ _)) ?_
 intro aa hS
 refine sB (Balloc hS hR info228 (by rfl) (by rfl) (by decide) ?_); clear hS hR; intro aa ww bb5 hS hR
 refine sB (Bstore hS hR rfl rfl (by rfl) info228 (by rfl) pkQ (by rfl) (Nat.le_of_ble_eq_true rfl) ?_); clear hR; intro ww hR
 refine wpList_nil ?_
 refine hK302 _ _ ?_
 refine wp_seq_k ?_; intro K303 hK303
 refine wp_seq_k ?_; intro K304 hK304
 refine wp_region_lit ?_
 try (replace hR := hR.pk (r := blk bb5 _ _) pkQ; dsimp only [lay, List.set] at hR; rw [show ([.int .u8 (k.2.1 / 16777216 % 256), .int .u8 (k.2.1 / 65536 % 256), .int .u8 (k.2.1 / 256 % 256), .int .u8 (k.2.1 % 256), .int .u8 (k.2.2.1 / 16777216 % 256), .int .u8 (k.2.2.1 / 65536 % 256), .int .u8 (k.2.2.1 / 256 % 256), .int .u8 (k.2.2.1 % 256), .int .u8 k.1, .int .u8 (k.2.2.2.1 / 256 % 256), .int .u8 (k.2.2.2.1 % 256), .int .u8 (k.2.2.2.2 / 256 % 256), .int .u8 (k.2.2.2.2 % 256)] : List Value) = (byts k).flatMap eB from by simp only [byts, eB, List.flatMap_cons, List.flatMap_nil, List.append_nil, List.cons_append, List.nil_append]; rw [Int.emod_eq_of_lt q1.1 (by omega : k.1 < 256)]] at hR)
 revert aa
 refine qM hR ?_
 refine qA hR rfl (fun _ hS => Yld.lss hS rfl rfl) ?_
 intro aa hS
 try (replace hR := hR.pk (r := blk bb5 _ _) pkQ; dsimp only [lay, List.set] at hR; rw [show ([.int .u8 (k.2.1 / 16777216 % 256), .int .u8 (k.2.1 / 65536 % 256), .int .u8 (k.2.1 / 256 % 256), .int .u8 (k.2.1 % 256), .int .u8 (k.2.2.1 / 16777216 % 256), .int .u8 (k.2.2.1 / 65536 % 256), .int .u8 (k.2.2.1 / 256 % 256), .int .u8 (k.2.2.1 % 256), .int .u8 k.1, .int .u8 (k.2.2.2.1 / 256 % 256), .int .u8 (k.2.2.2.1 % 256), .int .u8 (k.2.2.2.2 / 256 % 256), .int .u8 (k.2.2.2.2 % 256)] : List Value) = (byts k).flatMap eB from by simp only [byts, eB, List.flatMap_cons, List.flatMap_nil, List.append_nil, List.cons_append, List.nil_append]; rw [Int.emod_eq_of_lt q1.1 (by omega : k.1 < 256)]] at hR)
 revert aa
 refine qM hR ?_
 intro aa hS
 try (replace hR := hR.pk (r := blk bb5 _ _) pkQ; dsimp only [lay, List.set] at hR; rw [show ([.int .u8 (k.2.1 / 16777216 % 256), .int .u8 (k.2.1 / 65536 % 256), .int .u8 (k.2.1 / 256 % 256), .int .u8 (k.2.1 % 256), .int .u8 (k.2.2.1 / 16777216 % 256), .int .u8 (k.2.2.1 / 65536 % 256), .int .u8 (k.2.2.1 / 256 % 256), .int .u8 (k.2.2.1 % 256), .int .u8 k.1, .int .u8 (k.2.2.2.1 / 256 % 256), .int .u8 (k.2.2.2.1 % 256), .int .u8 (k.2.2.2.2 / 256 % 256), .int .u8 (k.2.2.2.2 % 256)] : List Value) = (byts k).flatMap eB from by simp only [byts, eB, List.flatMap_cons, List.flatMap_nil, List.append_nil, List.cons_append, List.nil_append]; rw [Int.emod_eq_of_lt q1.1 (by omega : k.1 < 256)]] at hR)
 refine hS.splitB (t := 55) rfl ?_ ?_ <;> clear hS
 ·
  intro hg hS
  try (replace hR := hR.pk (r := blk bb5 _ _) pkQ; dsimp only [lay, List.set] at hR; rw [show ([.int .u8 (k.2.1 / 16777216 % 256), .int .u8 (k.2.1 / 65536 % 256), .int .u8 (k.2.1 / 256 % 256), .int .u8 (k.2.1 % 256), .int .u8 (k.2.2.1 / 16777216 % 256), .int .u8 (k.2.2.1 / 65536 % 256), .int .u8 (k.2.2.1 / 256 % 256), .int .u8 (k.2.2.1 % 256), .int .u8 k.1, .int .u8 (k.2.2.2.1 / 256 % 256), .int .u8 (k.2.2.2.1 % 256), .int .u8 (k.2.2.2.2 / 256 % 256), .int .u8 (k.2.2.2.2 % 256)] : List Value) = (byts k).flatMap eB from by simp only [byts, eB, List.flatMap_cons, List.flatMap_nil, List.append_nil, List.cons_append, List.nil_append]; rw [Int.emod_eq_of_lt q1.1 (by omega : k.1 < 256)]] at hR)
  revert aa
  refine qZ ?_
  refine qZ ?_
  refine qA hR rfl (fun _ hS => Yld.pickT hS rfl rfl) ?_
  intro aa hS
  refine wpList_nil ?_
  refine hK304 _ _ ?_
  refine condT hS rfl ?_
  refine wp_seq_k ?_; intro K305 hK305
  refine wp_region_lit ?_
  revert aa
  refine qN hR ?_
  intro aa hS
  refine wpList_nil ?_
  refine hK305 _ _ ?_
  refine wp_ret ?_
  repeat first | with_reducible refine thenR ?_ | with_reducible refine blockR ?_ | with_reducible refine scopeR ?_
  refine ret1 (fn := Tryz.f146) (e := .ret) (.inl rfl) Tryz.results146 hS hR ⟨_, (.tmp rfl), ?_⟩
  refine ⟨?_, (hR.sub exQ)⟩
  first
   | (rw [show digI k i = 0 from if_neg (by omega)])
   | (rw [show digI k (m : Int) = x / 16 % 16 from by (rw [digI, if_pos (by omega), Int.toNat_natCast, show m = 2 * (m / 2) from by omega]; exact dig_even hx)])
   | (rw [show digI k (m : Int) = x / 1 % 16 from by (rw [digI, if_pos (by omega), Int.toNat_natCast, show m = 2 * (m / 2) + 1 from by omega, Int.ediv_one]; exact dig_odd hx)])
 ·
  intro hg hS
  try (replace hR := hR.pk (r := blk bb5 _ _) pkQ; dsimp only [lay, List.set] at hR; rw [show ([.int .u8 (k.2.1 / 16777216 % 256), .int .u8 (k.2.1 / 65536 % 256), .int .u8 (k.2.1 / 256 % 256), .int .u8 (k.2.1 % 256), .int .u8 (k.2.2.1 / 16777216 % 256), .int .u8 (k.2.2.1 / 65536 % 256), .int .u8 (k.2.2.1 / 256 % 256), .int .u8 (k.2.2.1 % 256), .int .u8 k.1, .int .u8 (k.2.2.2.1 / 256 % 256), .int .u8 (k.2.2.2.1 % 256), .int .u8 (k.2.2.2.2 / 256 % 256), .int .u8 (k.2.2.2.2 % 256)] : List Value) = (byts k).flatMap eB from by simp only [byts, eB, List.flatMap_cons, List.flatMap_nil, List.append_nil, List.cons_append, List.nil_append]; rw [Int.emod_eq_of_lt q1.1 (by omega : k.1 < 256)]] at hR)
  revert aa
  refine qMg hR ?_
  refine qAg hR rfl rfl rfl (fun _ hS => Yld.geq hS rfl rfl) ?_
  refine qA hR rfl (fun _ hS => Yld.pickF hS rfl rfl) ?_
  intro aa hS
  refine wpList_nil ?_
  refine hK304 _ _ ?_
  refine hS.splitB (t := 58) rfl ?_ ?_ <;> clear hS
  ·
   intro hg hS
   refine condT hS rfl ?_
   refine wp_seq_k ?_; intro K306 hK306
   refine wp_region_lit ?_
   revert aa
   refine qN hR ?_
   intro aa hS
   refine wpList_nil ?_
   refine hK306 _ _ ?_
   refine wp_ret ?_
   repeat first | with_reducible refine thenR ?_ | with_reducible refine blockR ?_ | with_reducible refine scopeR ?_
   refine ret1 (fn := Tryz.f146) (e := .ret) (.inl rfl) Tryz.results146 hS hR ⟨_, (.tmp rfl), ?_⟩
   refine ⟨?_, (hR.sub exQ)⟩
   first
    | (rw [show digI k i = 0 from if_neg (by omega)])
    | (rw [show digI k (m : Int) = x / 16 % 16 from by (rw [digI, if_pos (by omega), Int.toNat_natCast, show m = 2 * (m / 2) from by omega]; exact dig_even hx)])
    | (rw [show digI k (m : Int) = x / 1 % 16 from by (rw [digI, if_pos (by omega), Int.toNat_natCast, show m = 2 * (m / 2) + 1 from by omega, Int.ediv_one]; exact dig_odd hx)])
  ·
   intro hg hS
   obtain ⟨m, rfl⟩ : ∃ m : Nat, i = m := ⟨i.toNat, by omega⟩
   have hbl : (byts k).length = 13 := rfl
   obtain ⟨x, hx⟩ : ∃ x, (byts k)[m / 2]? = some x := ⟨(byts k)[m / 2]'(by omega), by simp⟩
   have hxe : (byts k)[m / 2]'(by omega) = x := (List.getElem?_eq_some_iff.1 hx).2
   have hxb := byts_bd hx
   refine condF hS rfl ?_
   refine wp_skip ?_
   refine hK303 _ _ ?_
   refine wp_seq_k ?_; intro K307 hK307
   refine wp_region_lit ?_
   by_cases hn : m % 2 = 0
   ·
    revert aa
    refine qM hR ?_
    refine qA hR rfl (fun _ hS => by first | exact Yld.quo64 hS rfl rfl (by omega) | exact Yld.quo hS rfl rfl (by omega)) ?_
    refine qA hR rfl (fun _ hS => Yld.indexArr hS rfl rfl Tryz.underlying228 info5 (by omega) (by omega)) ?_
    refine qA hR rfl (fun _ hS => Yld.load1 hS rfl Tryz.underlying5 rfl ((Rd.flat0 (sz := 1) (k := m / 2) pkQ (by intro _; rfl) (by omega) (by rw [hxe]; rfl)).at (by have h1 : (Tryz.t5).size = 1 := rfl; rw [h1]; omega))) ?_
    refine qM hR ?_
    refine qA hR rfl (fun _ hS => by first | exact Yld.rem64 hS rfl rfl (by omega) | exact Yld.rem hS rfl rfl (by omega)) ?_
    intro aa hS
    refine sA hS hR suQ (by decide) ?_; clear hS; intro aa hS
    revert aa
    refine qA hR rfl (fun _ hS => by first | exact Yld.mul64 hS rfl rfl (by omega) | exact Yld.mul hS rfl rfl) ?_
    refine qA hR rfl (fun _ hS => Yld.shrL 4 16 hS rfl rfl (by omega) (by decide) (by decide)) ?_
    refine qA hR rfl (fun _ hS => Yld.to (Yld.and hS rfl rfl) (congrArg (Value.int .u8) (and15 (by omega)))) ?_
    refine qN hR ?_
    intro aa hS
    refine wpList_nil ?_
    refine hK307 _ _ ?_
    refine wp_ret ?_
    repeat first | with_reducible refine thenR ?_ | with_reducible refine blockR ?_ | with_reducible refine scopeR ?_
    refine ret1 (fn := Tryz.f146) (e := .ret) (.inl rfl) Tryz.results146 hS hR ⟨_, (.tmp rfl), ?_⟩
    refine ⟨?_, (hR.sub exQ)⟩
    first
     | (rw [show digI k i = 0 from if_neg (by omega)])
     | (rw [show digI k (m : Int) = x / 16 % 16 from by (rw [digI, if_pos (by omega), Int.toNat_natCast, show m = 2 * (m / 2) from by omega]; exact dig_even hx)])
     | (rw [show digI k (m : Int) = x / 1 % 16 from by (rw [digI, if_pos (by omega), Int.toNat_natCast, show m = 2 * (m / 2) + 1 from by omega, Int.ediv_one]; exact dig_odd hx)])
   ·
    revert aa
    refine qM hR ?_
    refine qA hR rfl (fun _ hS => by first | exact Yld.quo64 hS rfl rfl (by omega) | exact Yld.quo hS rfl rfl (by omega)) ?_
    refine qA hR rfl (fun _ hS => Yld.indexArr hS rfl rfl Tryz.underlying228 info5 (by omega) (by omega)) ?_
    refine qA hR rfl (fun _ hS => Yld.load1 hS rfl Tryz.underlying5 rfl ((Rd.flat0 (sz := 1) (k := m / 2) pkQ (by intro _; rfl) (by omega) (by rw [hxe]; rfl)).at (by have h1 : (Tryz.t5).size = 1 := rfl; rw [h1]; omega))) ?_
    refine qM hR ?_
    refine qA hR rfl (fun _ hS => by first | exact Yld.rem64 hS rfl rfl (by omega) | exact Yld.rem hS rfl rfl (by omega)) ?_
    intro aa hS
    refine sA hS hR suQ (by decide) ?_; clear hS; intro aa hS
    revert aa
    refine qA hR rfl (fun _ hS => by first | exact Yld.mul64 hS rfl rfl (by omega) | exact Yld.mul hS rfl rfl) ?_
    refine qA hR rfl (fun _ hS => Yld.shrL 0 1 hS rfl rfl (by omega) (by decide) (by decide)) ?_
    refine qA hR rfl (fun _ hS => Yld.to (Yld.and hS rfl rfl) (congrArg (Value.int .u8) (and15 (by omega)))) ?_
    refine qN hR ?_
    intro aa hS
    refine wpList_nil ?_
    refine hK307 _ _ ?_
    refine wp_ret ?_
    repeat first | with_reducible refine thenR ?_ | with_reducible refine blockR ?_ | with_reducible refine scopeR ?_
    refine ret1 (fn := Tryz.f146) (e := .ret) (.inl rfl) Tryz.results146 hS hR ⟨_, (.tmp rfl), ?_⟩
    refine ⟨?_, (hR.sub exQ)⟩
    first
     | (rw [show digI k i = 0 from if_neg (by omega)])
     | (rw [show digI k (m : Int) = x / 16 % 16 from by (rw [digI, if_pos (by omega), Int.toNat_natCast, show m = 2 * (m / 2) from by omega]; exact dig_even hx)])
     | (rw [show digI k (m : Int) = x / 1 % 16 from by (rw [digI, if_pos (by omega), Int.toNat_natCast, show m = 2 * (m / 2) + 1 from by omega, Int.ediv_one]; exact dig_odd hx)])
theorem digits_ok {k : Ky} {l : List HP} {w : World} (hR : Sep l w) : CallR Tryz.prog 139 [vK k] w (fun v w' => ∃ b, v = .func (.func 145) #[] #[.pointer (some ⟨b, 0, none⟩)] ∧ Sep (blk b (eK k) 160 :: l) w') := by
 refine enter Tryz.func139 rfl Tryz.ntmps139 (Nat.le_of_ble_eq_true rfl) ?_; intro aa hS
 refine wp_seq_k ?_; intro K308 hK308
 refine wp_region_lit ?_
 refine sB (Bbox hS hR rfl (by rfl) (by decide) ?_); clear hS hR; intro aa ww bb1 hS hR
 revert aa
 refine qN hR ?_
 intro aa hS
 refine wpList_nil ?_
 refine hK308 _ _ ?_
 refine wp_seq_k ?_; intro K309 hK309
 refine wp_region_lit ?_
 revert aa
 refine qA hR rfl (fun _ hS => Yld.makeFunc hS rfl rfl) ?_
 refine qN hR ?_
 intro aa hS
 refine wpList_nil ?_
 refine hK309 _ _ ?_
 refine wp_ret ?_
 repeat first | with_reducible refine thenR ?_ | with_reducible refine blockR ?_ | with_reducible refine scopeR ?_
 refine ret1 (fn := Tryz.f139) (e := .ret) (.inl rfl) Tryz.results139 hS hR ⟨_, (.tmp rfl), ?_⟩
 exact ⟨_, rfl, (hR.sub exQ)⟩
theorem digits_it {k : Ky} {J : Nat → HP} {E : HP} {bk L : Nat} {l : List HP} {w : World} (hR : Sep (J 0 :: blk bk (eK k) 160 :: l) w) (hk : WfK k) (hY : ∀ (Y : List HP) (i : Nat) (w : World), i < 26 → Sep (J i :: Y) w → YieldR Tryz.prog L [.int .i64 (i : Int), .int .u8 (dig k i)] w (fun b w1 => Sep ((bif b then J (i + 1) else E) :: Y) w1)) : CallR Tryz.prog 145 [.func (.yield L) #[] #[], .pointer (some ⟨bk, 0, none⟩)] w (fun v w' => Sep (J 26 :: blk bk (eK k) 160 :: l) w' ∨ Sep (E :: blk bk (eK k) 160 :: l) w') := by
 refine enterX Tryz.func145 rfl Tryz.ntmps145 (Nat.le_of_ble_eq_true rfl) ?_; intro aa hS
 refine Go.wpIn_seq_k ?_; intro K310 hK310
 refine Go.wpIn_region_lit ?_
 refine xA hS hR (Yld.move hS rfl) (by decide) ?_; clear hS; intro aa hS
 refine Go.wpListIn_nil ?_
 refine hK310 _ _ ?_
 refine Go.wpIn_block ?_
 replace hR := hR.pk (r := J 0) pkQ
 refine xloopI (X := Nat) [(0, _), (1, _)] (fun x => [(4, .int .i64 (x : Int))]) (fun x => [J x]) _ (fun x => x ≤ 26) (fun x => 26 - x) 0 (Nat.zero_le _) (hS.le (Le.cons rfl (Le.nilapp (Le.cons rfl (Le.cons rfl (Le.nil _)))))) hR ?_
 clear hS hR; rintro i aa ww hI hS hR; dsimp only [List.cons_append, List.nil_append] at hI hS hR
 refine Go.wpIn_seq_k ?_; intro K312 hK312
 refine Go.wpIn_region_lit ?_
 refine xA hS hR (Yld.lss hS rfl rfl) (by decide) ?_; clear hS; intro aa hS
 refine Go.wpListIn_nil ?_
 refine hK312 _ _ ?_
 refine Go.wpIn_seq_k ?_; intro K313 hK313
 refine hS.splitB (t := 5) rfl ?_ ?_ <;> clear hS
 ·
  intro hg hS
  refine xcondT hS rfl ?_
  refine Go.wpIn_skip ?_
  refine hK313 _ _ ?_
  refine Go.wpIn_seq_k ?_; intro K314 hK314
  refine Go.wpIn_block ?_
  refine Go.wpIn_seq_k ?_; intro K315 hK315
  refine Go.wpIn_region_lit ?_
  refine xA hS hR (Yld.move hS rfl) (by decide) ?_; clear hS; intro aa hS
  refine xA hS hR (Yld.assign hS rfl) (by decide) ?_; clear hS; intro aa hS
  refine Go.wpListIn_nil ?_
  refine hK315 _ _ ?_
  refine Go.wpIn_seq_k ?_; intro K316 hK316
  refine Go.wpIn_region_lit ?_
  refine xA hS hR (Yld.move hS rfl) (by decide) ?_; clear hS; intro aa hS
  refine xA hS hR (Yld.move hS rfl) (by decide) ?_; clear hS; intro aa hS
  refine xA hS hR (Yld.loadAgg hS rfl Tryz.underlying160 rfl info160 rdsQ5 (by rfl)) (by decide) ?_; clear hS; intro aa hS
  refine xA hS hR (Yld.move hS rfl) (by decide) ?_; clear hS; intro aa hS
  refine xB hS (Bcall hS rfl Tryz.call146 (Digit_ok hR (by assumption)) (by decide) ?_); clear hS; intro aa ww vv hS hp; refine ⟨hS.defers, ?_⟩
  clear hR
  obtain ⟨rfl, hR⟩ := hp
  replace hS := hS.say (t := 11) (.int .u8 (dig k i)) rfl (by rw [show digI k (i : Int) = dig k i from by rw [digI, if_pos (by omega), Int.toNat_natCast]])
  refine xY hS rfl rfl (hY _ i _ (by omega) (hR.pk (r := J i) pkQ)) (by decide) ?_; clear hS hR; intro aa ww bb hS hR
  refine hS.splitB (t := 12) rfl ?_ ?_ <;> clear hS
  ·
   intro hg hS
   subst hg
   dsimp only [cond] at hR
   refine xA hS hR (Yld.not hS rfl) (by decide) ?_; clear hS; intro aa hS
   refine Go.wpListIn_nil ?_
   refine hK316 _ _ ?_
   refine xcondF hS rfl ?_
   refine Go.wpIn_skip ?_
   refine hK314 _ _ ?_
   refine Go.wpIn_region_lit ?_
   refine xA hS hR adQ (by decide) ?_; clear hS; intro aa hS
   refine xA hS hR (Yld.move hS rfl) (by decide) ?_; clear hS; intro aa hS
   refine Go.wpListIn_nil ?_
   refine ⟨i + 1, ?_, ?_, hasW (hS.le (Le.cons rfl (Le.nilapp (Le.cons rfl (Le.cons rfl (Le.nil _)))))), hR.sub (Ex.take pkQ (Ex.nilapp exQ))⟩
   ·
    omega
   ·
    omega
  ·
   intro hg hS
   subst hg
   dsimp only [cond] at hR
   refine xA hS hR (Yld.not hS rfl) (by decide) ?_; clear hS; intro aa hS
   refine Go.wpListIn_nil ?_
   refine hK316 _ _ ?_
   refine xcondT hS rfl ?_
   refine Go.wpIn_ret ?_
   repeat first | with_reducible refine thenR ?_ | with_reducible refine blockR ?_ | with_reducible refine scopeR ?_
   refine xretN (fn := Tryz.f145) (e := .ret) [] rfl (.inl rfl) Tryz.results145 hS hR ?_; clear hR; intro ww hR; refine ⟨_, .nil, rfl, ?_⟩
   first | (refine .inl (hR.sub ?_); (repeat (first | with_reducible exact Ex.refl | (with_reducible apply Ex.take; · repeat (first | with_reducible exact Pk.here | with_reducible apply Pk.there)) | with_reducible apply Ex.drop)); done) | (refine .inr (hR.sub ?_); (repeat (first | with_reducible exact Ex.refl | (with_reducible apply Ex.take; · repeat (first | with_reducible exact Pk.here | with_reducible apply Pk.there)) | with_reducible apply Ex.drop)); done)
 ·
  intro hg hS
  have hi : i = 26 := by omega
  subst hi
  refine xcondF hS rfl ?_
  refine Go.wpIn_exit ?_
  repeat (first | with_reducible refine thenX ?_ | with_reducible refine blockX ?_ | with_reducible refine blockY (by rfl) ?_)
  refine xretN (fn := Tryz.f145) (e := .normal) [] rfl (.inr rfl) Tryz.results145 hS hR ?_; clear hR; intro ww hR; refine ⟨_, .nil, rfl, ?_⟩
  first | (refine .inl (hR.sub ?_); (repeat (first | with_reducible exact Ex.refl | (with_reducible apply Ex.take; · repeat (first | with_reducible exact Pk.here | with_reducible apply Pk.there)) | with_reducible apply Ex.drop)); done) | (refine .inr (hR.sub ?_); (repeat (first | with_reducible exact Ex.refl | (with_reducible apply Ex.take; · repeat (first | with_reducible exact Pk.here | with_reducible apply Pk.there)) | with_reducible apply Ex.drop)); done)
end Go.Proofs.YtkhdejjompbklaaGreat.Sx
