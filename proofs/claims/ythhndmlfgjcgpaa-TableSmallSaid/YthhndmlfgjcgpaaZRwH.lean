/-
 
-/
import Derived.Test.YthhndmlfgjcgpaaZRwF
import Derived.Test.YthhndmlfgjcgpaaZRwN
namespace Go.Proofs.Ythhndmlfgjcgpaa.Sx
open Go
set_option maxRecDepth 20000
set_option linter.unusedVariables false
set_option linter.unusedSimpArgs false
theorem info23 : Try.prog.info? 23 = some Try.t23 := by kernel_rfl
theorem info67 : Try.prog.info? 67 = some Try.t67 := by kernel_rfl
theorem bld67_0 (x0 : Int) (w : World) : (Instr.build 67 [(0, .int .u8 x0)].toArray).run Try.prog w = .ok (.agg [.int .u8 x0, .int .u8 0, .int .u32 0, .int .u32 0, .int .u16 0, .int .u16 0, .int .i64 0, .int .i64 0, .int .i64 0].toArray) w := by kernel_rfl
theorem bld67_0_2 (x0 : Int) (x2 : Int) (w : World) : (Instr.build 67 [(0, .int .u8 x0), (2, .int .i64 x2)].toArray).run Try.prog w = .ok (.agg [.int .u8 x0, .int .u8 0, .int .u32 0, .int .u32 0, .int .u16 0, .int .u16 0, .int .i64 x2, .int .i64 0, .int .i64 0].toArray) w := by kernel_rfl
theorem bld67_0_3 (x0 : Int) (x3 : Int) (w : World) : (Instr.build 67 [(0, .int .u8 x0), (3, .int .i64 x3)].toArray).run Try.prog w = .ok (.agg [.int .u8 x0, .int .u8 0, .int .u32 0, .int .u32 0, .int .u16 0, .int .u16 0, .int .i64 0, .int .i64 x3, .int .i64 0].toArray) w := by kernel_rfl
theorem bld67_0_4 (x0 : Int) (x4 : Int) (w : World) : (Instr.build 67 [(0, .int .u8 x0), (4, .int .i64 x4)].toArray).run Try.prog w = .ok (.agg [.int .u8 x0, .int .u8 0, .int .u32 0, .int .u32 0, .int .u16 0, .int .u16 0, .int .i64 0, .int .i64 0, .int .i64 x4].toArray) w := by kernel_rfl
theorem bld67_1 (x1_0 : Int) (x1_1 : Int) (x1_2 : Int) (x1_3 : Int) (x1_4 : Int) (w : World) : (Instr.build 67 [(1, .agg [.int .u8 x1_0, .int .u32 x1_1, .int .u32 x1_2, .int .u16 x1_3, .int .u16 x1_4].toArray)].toArray).run Try.prog w = .ok (.agg [.int .u8 0, .int .u8 x1_0, .int .u32 x1_1, .int .u32 x1_2, .int .u16 x1_3, .int .u16 x1_4, .int .i64 0, .int .i64 0, .int .i64 0].toArray) w := by kernel_rfl
theorem bld67_1_4 (x1_0 : Int) (x1_1 : Int) (x1_2 : Int) (x1_3 : Int) (x1_4 : Int) (x4 : Int) (w : World) : (Instr.build 67 [(1, .agg [.int .u8 x1_0, .int .u32 x1_1, .int .u32 x1_2, .int .u16 x1_3, .int .u16 x1_4].toArray), (4, .int .i64 x4)].toArray).run Try.prog w = .ok (.agg [.int .u8 0, .int .u8 x1_0, .int .u32 x1_1, .int .u32 x1_2, .int .u16 x1_3, .int .u16 x1_4, .int .i64 0, .int .i64 0, .int .i64 x4].toArray) w := by kernel_rfl
theorem bld81_  (w : World) : (Instr.build 81 [].toArray).run Try.prog w = .ok (.agg [.pointer none, .pointer none, .pointer none, .pointer none, .slice none 0 0, .int .i64 0].toArray) w := by kernel_rfl
theorem bls62_10_0_1_2_3_4_5_6_7_8_9 (x0_0 : Int) (x0_1 : Int) (x0_2 : Int) (x0_3 : Int) (x0_4 : Int) (x0_5 : Int) (x0_6 : Int) (x0_7 : Int) (x0_8 : Int) (x1_0 : Int) (x1_1 : Int) (x1_2 : Int) (x1_3 : Int) (x1_4 : Int) (x1_5 : Int) (x1_6 : Int) (x1_7 : Int) (x1_8 : Int) (x2_0 : Int) (x2_1 : Int) (x2_2 : Int) (x2_3 : Int) (x2_4 : Int) (x2_5 : Int) (x2_6 : Int) (x2_7 : Int) (x2_8 : Int) (x3_0 : Int) (x3_1 : Int) (x3_2 : Int) (x3_3 : Int) (x3_4 : Int) (x3_5 : Int) (x3_6 : Int) (x3_7 : Int) (x3_8 : Int) (x4_0 : Int) (x4_1 : Int) (x4_2 : Int) (x4_3 : Int) (x4_4 : Int) (x4_5 : Int) (x4_6 : Int) (x4_7 : Int) (x4_8 : Int) (x5_0 : Int) (x5_1 : Int) (x5_2 : Int) (x5_3 : Int) (x5_4 : Int) (x5_5 : Int) (x5_6 : Int) (x5_7 : Int) (x5_8 : Int) (x6_0 : Int) (x6_1 : Int) (x6_2 : Int) (x6_3 : Int) (x6_4 : Int) (x6_5 : Int) (x6_6 : Int) (x6_7 : Int) (x6_8 : Int) (x7_0 : Int) (x7_1 : Int) (x7_2 : Int) (x7_3 : Int) (x7_4 : Int) (x7_5 : Int) (x7_6 : Int) (x7_7 : Int) (x7_8 : Int) (x8_0 : Int) (x8_1 : Int) (x8_2 : Int) (x8_3 : Int) (x8_4 : Int) (x8_5 : Int) (x8_6 : Int) (x8_7 : Int) (x8_8 : Int) (x9_0 : Int) (x9_1 : Int) (x9_2 : Int) (x9_3 : Int) (x9_4 : Int) (x9_5 : Int) (x9_6 : Int) (x9_7 : Int) (x9_8 : Int) (w : World) : (Instr.buildSlice 62 10 [(0, .agg [.int .u8 x0_0, .int .u8 x0_1, .int .u32 x0_2, .int .u32 x0_3, .int .u16 x0_4, .int .u16 x0_5, .int .i64 x0_6, .int .i64 x0_7, .int .i64 x0_8].toArray), (1, .agg [.int .u8 x1_0, .int .u8 x1_1, .int .u32 x1_2, .int .u32 x1_3, .int .u16 x1_4, .int .u16 x1_5, .int .i64 x1_6, .int .i64 x1_7, .int .i64 x1_8].toArray), (2, .agg [.int .u8 x2_0, .int .u8 x2_1, .int .u32 x2_2, .int .u32 x2_3, .int .u16 x2_4, .int .u16 x2_5, .int .i64 x2_6, .int .i64 x2_7, .int .i64 x2_8].toArray), (3, .agg [.int .u8 x3_0, .int .u8 x3_1, .int .u32 x3_2, .int .u32 x3_3, .int .u16 x3_4, .int .u16 x3_5, .int .i64 x3_6, .int .i64 x3_7, .int .i64 x3_8].toArray), (4, .agg [.int .u8 x4_0, .int .u8 x4_1, .int .u32 x4_2, .int .u32 x4_3, .int .u16 x4_4, .int .u16 x4_5, .int .i64 x4_6, .int .i64 x4_7, .int .i64 x4_8].toArray), (5, .agg [.int .u8 x5_0, .int .u8 x5_1, .int .u32 x5_2, .int .u32 x5_3, .int .u16 x5_4, .int .u16 x5_5, .int .i64 x5_6, .int .i64 x5_7, .int .i64 x5_8].toArray), (6, .agg [.int .u8 x6_0, .int .u8 x6_1, .int .u32 x6_2, .int .u32 x6_3, .int .u16 x6_4, .int .u16 x6_5, .int .i64 x6_6, .int .i64 x6_7, .int .i64 x6_8].toArray), (7, .agg [.int .u8 x7_0, .int .u8 x7_1, .int .u32 x7_2, .int .u32 x7_3, .int .u16 x7_4, .int .u16 x7_5, .int .i64 x7_6, .int .i64 x7_7, .int .i64 x7_8].toArray), (8, .agg [.int .u8 x8_0, .int .u8 x8_1, .int .u32 x8_2, .int .u32 x8_3, .int .u16 x8_4, .int .u16 x8_5, .int .i64 x8_6, .int .i64 x8_7, .int .i64 x8_8].toArray), (9, .agg [.int .u8 x9_0, .int .u8 x9_1, .int .u32 x9_2, .int .u32 x9_3, .int .u16 x9_4, .int .u16 x9_5, .int .i64 x9_6, .int .i64 x9_7, .int .i64 x9_8].toArray)].toArray).run Try.prog w = .ok (.slice (some ⟨w.heap.size, 0, none⟩) 10 10) (w.alloc (.cells ([.int .u8 x0_0, .int .u8 x0_1, .int .u32 x0_2, .int .u32 x0_3, .int .u16 x0_4, .int .u16 x0_5, .int .i64 x0_6, .int .i64 x0_7, .int .i64 x0_8, .int .u8 x1_0, .int .u8 x1_1, .int .u32 x1_2, .int .u32 x1_3, .int .u16 x1_4, .int .u16 x1_5, .int .i64 x1_6, .int .i64 x1_7, .int .i64 x1_8, .int .u8 x2_0, .int .u8 x2_1, .int .u32 x2_2, .int .u32 x2_3, .int .u16 x2_4, .int .u16 x2_5, .int .i64 x2_6, .int .i64 x2_7, .int .i64 x2_8, .int .u8 x3_0, .int .u8 x3_1, .int .u32 x3_2, .int .u32 x3_3, .int .u16 x3_4, .int .u16 x3_5, .int .i64 x3_6, .int .i64 x3_7, .int .i64 x3_8, .int .u8 x4_0, .int .u8 x4_1, .int .u32 x4_2, .int .u32 x4_3, .int .u16 x4_4, .int .u16 x4_5, .int .i64 x4_6, .int .i64 x4_7, .int .i64 x4_8, .int .u8 x5_0, .int .u8 x5_1, .int .u32 x5_2, .int .u32 x5_3, .int .u16 x5_4, .int .u16 x5_5, .int .i64 x5_6, .int .i64 x5_7, .int .i64 x5_8, .int .u8 x6_0, .int .u8 x6_1, .int .u32 x6_2, .int .u32 x6_3, .int .u16 x6_4, .int .u16 x6_5, .int .i64 x6_6, .int .i64 x6_7, .int .i64 x6_8, .int .u8 x7_0, .int .u8 x7_1, .int .u32 x7_2, .int .u32 x7_3, .int .u16 x7_4, .int .u16 x7_5, .int .i64 x7_6, .int .i64 x7_7, .int .i64 x7_8, .int .u8 x8_0, .int .u8 x8_1, .int .u32 x8_2, .int .u32 x8_3, .int .u16 x8_4, .int .u16 x8_5, .int .i64 x8_6, .int .i64 x8_7, .int .i64 x8_8, .int .u8 x9_0, .int .u8 x9_1, .int .u32 x9_2, .int .u32 x9_3, .int .u16 x9_4, .int .u16 x9_5, .int .i64 x9_6, .int .i64 x9_7, .int .i64 x9_8] : List Value).toArray 67)) := by kernel_rfl
theorem bls74_7_0_1_2_3_4_5_6 (x0_0 : Int) (x0_1 : Int) (x1_0 : Int) (x1_1 : Int) (x2_0 : Int) (x2_1 : Int) (x3_0 : Int) (x3_1 : Int) (x4_0 : Int) (x4_1 : Int) (x5_0 : Int) (x5_1 : Int) (x6_0 : Int) (x6_1 : Int) (w : World) : (Instr.buildSlice 74 7 [(0, .agg [.int .i64 x0_0, .int .i64 x0_1].toArray), (1, .agg [.int .i64 x1_0, .int .i64 x1_1].toArray), (2, .agg [.int .i64 x2_0, .int .i64 x2_1].toArray), (3, .agg [.int .i64 x3_0, .int .i64 x3_1].toArray), (4, .agg [.int .i64 x4_0, .int .i64 x4_1].toArray), (5, .agg [.int .i64 x5_0, .int .i64 x5_1].toArray), (6, .agg [.int .i64 x6_0, .int .i64 x6_1].toArray)].toArray).run Try.prog w = .ok (.slice (some ⟨w.heap.size, 0, none⟩) 7 7) (w.alloc (.cells ([.int .i64 x0_0, .int .i64 x0_1, .int .i64 x1_0, .int .i64 x1_1, .int .i64 x2_0, .int .i64 x2_1, .int .i64 x3_0, .int .i64 x3_1, .int .i64 x4_0, .int .i64 x4_1, .int .i64 x5_0, .int .i64 x5_1, .int .i64 x6_0, .int .i64 x6_1] : List Value).toArray 73)) := by kernel_rfl
theorem bls82_2_0_1 (x0 : Option Addr) (x1 : Option Addr) (w : World) : (Instr.buildSlice 82 2 [(0, .pointer x0), (1, .pointer x1)].toArray).run Try.prog w = .ok (.slice (some ⟨w.heap.size, 0, none⟩) 2 2) (w.alloc (.cells ([.pointer x0, .pointer x1] : List Value).toArray 23)) := by kernel_rfl
def ePs (p : Option Addr) : List Value := [.pointer p]
set_option maxHeartbeats 8000000 in
theorem TableSmall_ok {l : List HP} {w : World} (hR : Sep l w) : CallR Try.prog 9 ([] : List Value) w (fun v w' => v = .bool true ∧ Sep l w') := by
 refine enter Try.func9 rfl Try.ntmps9 (Nat.le_of_ble_eq_true rfl) ?_; intro aa hS
 refine wp_seq_k ?_; intro K1317 hK1317
 refine wp_region_lit ?_
 revert aa
 refine qN hR ?_
 intro aa hS
 refine wpList_nil ?_
 refine hK1317 _ _ ?_
 refine wp_seq_k ?_; intro K1318 hK1318
 refine wp_region_lit ?_
 refine sB (Bcall hS rfl Try.call31 (Example16_ok hR) (by decide) ?_); clear hS; intro aa ww vv hS hp
 clear hR
 obtain ⟨rfl, hR⟩ := hp
 refine sB (Balloc hS hR info35 (by rfl) (by rfl) (by decide) ?_); clear hS hR; intro aa ww bb1 hS hR
 refine sB (Bstore hS hR rfl rfl (by rfl) info35 (by rfl) pkQ (by rfl) (Nat.le_of_ble_eq_true rfl) ?_); clear hR; intro ww hR
 refine wpList_nil ?_
 refine hK1318 _ _ ?_
 refine wp_seq_k ?_; intro K1319 hK1319
 refine wp_region_lit ?_
 refine sA hS hR (Yld.build hS rfl (bld35_0_1_2_3_4 _ _ _ _ _)) (by decide) ?_; clear hS; intro aa hS
 refine sB (Balloc hS hR info35 (by rfl) (by rfl) (by decide) ?_); clear hS hR; intro aa ww bb2 hS hR
 refine sB (Bstore hS hR rfl rfl (by rfl) info35 (by rfl) pkQ (by rfl) (Nat.le_of_ble_eq_true rfl) ?_); clear hR; intro ww hR
 refine wpList_nil ?_
 refine hK1319 _ _ ?_
 refine wp_seq_k ?_; intro K1320 hK1320
 refine drawn krQ hR Ex.refl ?_; clear hR; intro ww hR hR0
 refine dA 0 rfl krQ krQ krQ (fun _ _ _ h => h) hS hR0 (Yld.loadAgg hS rfl Try.underlying35 rfl info35 rdsQ5 (by rfl)) (by decide) ?_; clear hS; intro aa hS
 revert aa
 refine eA 1 rfl krQ (fun _ _ _ h => h) hR0 rfl (fun _ hS => Yld.build hS rfl (bld67_1 _ _ _ _ _)) ?_
 intro aa hS
 refine dA 2 rfl krQ krQ krQ (fun _ _ _ h => h) hS hR0 (Yld.loadAgg hS rfl Try.underlying35 rfl info35 rdsQ5 (by rfl)) (by decide) ?_; clear hS; intro aa hS
 refine dA 5 rfl krQ krQ krQ (fun _ _ _ h => h) hS hR0 (Yld.loadAgg hS rfl Try.underlying35 rfl info35 rdsQ5 (by rfl)) (by decide) ?_; clear hS; intro aa hS
 revert aa
 refine eA 6 rfl krQ (fun _ _ _ h => h) hR0 rfl (fun _ hS => Yld.build hS rfl (bld67_1 _ _ _ _ _)) ?_
 intro aa hS
 refine dA 7 rfl krQ krQ krQ (fun _ _ _ h => h) hS hR0 (Yld.loadAgg hS rfl Try.underlying35 rfl info35 rdsQ5 (by rfl)) (by decide) ?_; clear hS; intro aa hS
 revert aa
 refine eA 8 rfl krQ (fun _ _ _ h => h) hR0 rfl (fun _ hS => Yld.build hS rfl (bld67_1_4 _ _ _ _ _ _)) ?_
 refine eA 9 rfl krQ (fun _ _ _ h => h) hR0 rfl (fun _ hS => Yld.build hS rfl (bld67_0 _)) ?_
 refine eA 10 rfl krQ (fun _ _ _ h => h) hR0 rfl (fun _ hS => Yld.build hS rfl (bld67_0_2 _ _)) ?_
 refine eA 11 rfl krQ (fun _ _ _ h => h) hR0 rfl (fun _ hS => Yld.build hS rfl (bld67_0_4 _ _)) ?_
 refine eA 12 rfl krQ (fun _ _ _ h => h) hR0 rfl (fun _ hS => Yld.build hS rfl (bld67_0_2 _ _)) ?_
 refine eA 13 rfl krQ (fun _ _ _ h => h) hR0 rfl (fun _ hS => Yld.build hS rfl (bld67_0_3 _ _)) ?_
 refine eA 14 rfl krQ (fun _ _ _ h => h) hR0 rfl (fun _ hS => Yld.fieldAddr hS rfl 1 Try.underlying35 rfl rfl info32 (by decide)) ?_
 refine eA 15 rfl krQ (fun _ _ _ h => h) hR0 rfl (fun _ hS => Yld.load1 hS rfl Try.underlying32 rfl rdQ) ?_
 refine eA 16 rfl krQ (fun _ _ _ h => h) hR0 rfl (fun _ hS => Yld.build hS rfl (bld35_1 _)) ?_
 refine eA 17 rfl krQ (fun _ _ _ h => h) hR0 rfl (fun _ hS => Yld.build hS rfl (bld67_1_4 _ _ _ _ _ _)) ?_
 intro aa hS
 refine dOne (i := 3) krQ ?_
 refine dop rfl (Bcall hS rfl Try.call16 (Turn_ok (k := exA) hR) (by decide) ?_); clear hS; intro aa ww vv hS hp
 clear hR hR0
 obtain ⟨rfl, hR⟩ := hp
 refine dnext (hR.sub exQ) ?_; intro hR0
 revert aa
 refine eA 4 rfl krQ (fun _ _ _ h => h) hR0 rfl (fun _ hS => Yld.build hS rfl (bld67_1_4 _ _ _ _ _ _)) ?_
 intro aa hS
 refine dOne (i := 18) krQ ?_
 refine dop rfl (BbuildSlice hS hR rfl (bls62_10_0_1_2_3_4_5_6_7_8_9 _ _ _ _ _ _ _ _ _ _ _ _ _ _ _ _ _ _ _ _ _ _ _ _ _ _ _ _ _ _ _ _ _ _ _ _ _ _ _ _ _ _ _ _ _ _ _ _ _ _ _ _ _ _ _ _ _ _ _ _ _ _ _ _ _ _ _ _ _ _ _ _ _ _ _ _ _ _ _ _ _ _ _ _ _ _ _ _ _ _) (by decide) ?_); clear hS hR hR0; intro aa ww bb50 hS hR
 refine dnext (hR.sub exQ) ?_; intro hR0
 replace hR := hR.pk (r := blk bb50 _ _) pkQ
 replace hR := Sep.toRecs (m := 10) (sz := 9) (enc := eA9) [(0, exA, 0, 0, 0), (0, trn exA, 0, 0, 1), (0, (1, 7, 7, 3, 3), 0, 0, 0), (0, (1, 7, 7, 3, 3), 0, 0, 2), (4, k0, 0, 0, 0), (4, k0, 1, 0, 0), (6, k0, 0, 0, 1), (6, k0, 1, 0, 0), (5, k0, 0, 1, 0), (0, (0, exA.2.1, 0, 0, 0), 0, 0, 1)] hR rfl (by intro _; rfl) rfl
 obtain ⟨rs, hrl, hrb, hR⟩ : ∃ rs : List At9, rs.length = 10 ∧ (∀ r ∈ rs, Ok9 r) ∧ Sep (sls (some ⟨bb50, 0, none⟩) 10 10 67 9 (rs.flatMap eA9) :: _) _ := ⟨_, rfl, by
  have w1 : WfK (1, 7, 7, 3, 3) := by constructor <;> decide
  have w2 : WfK (0, exA.2.1, 0, 0, 0) := by constructor <;> decide
  intro r hr
  simp only [List.mem_cons, List.not_mem_nil, or_false] at hr
  rcases hr with rfl | rfl | rfl | rfl | rfl | rfl | rfl | rfl | rfl | rfl <;> exact ⟨by dsimp only; omega, by first | exact wfA | exact trn_wf wfA | exact w1 | exact wfk0 | exact w2⟩, hR⟩
 revert aa
 refine eA 19 rfl krQ (fun _ _ _ h => h) hR0 rfl (fun _ hS => Yld.assign hS rfl) ?_
 intro aa hS
 refine wpAnyH_done krQ ?_ _; clear hR0
 refine hK1320 _ _ ?_
 refine wp_seq_k ?_; intro K1321 hK1321
 refine wp_seq_k ?_; intro K1322 hK1322
 refine wp_region_lit ?_
 revert aa
 refine qN hR ?_
 intro aa hS
 refine wpList_nil ?_
 refine hK1322 _ _ ?_
 refine wp_block ?_
 refine loopI (X := Nat) [(1, _), (3, _)] (fun x => [(4, .int .i64 (x : Int))]) (fun x => []) _ (fun x => 1 ≤ x ∧ x ≤ 3) (fun x => 3 - x) 1 (by omega) (hS.le (Le.cons rfl (Le.nilapp (Le.cons rfl (Le.cons rfl (Le.nil _)))))) hR ?_
 clear hS hR; rintro cp aa ww hI hS hR; dsimp only [List.cons_append, List.nil_append] at hI hS hR
 refine wp_seq_k ?_; intro K1324 hK1324
 refine wp_seq_k ?_; intro K1325 hK1325
 refine wp_region_lit ?_
 revert aa
 refine qM hR ?_
 refine qA hR rfl (fun _ hS => Yld.leq hS rfl rfl) ?_
 intro aa hS
 refine wpList_nil ?_
 refine hK1325 _ _ ?_
 refine hS.splitB (t := 52) rfl ?_ ?_ <;> clear hS
 ·
  intro hg hS
  refine condT hS rfl ?_
  refine wp_skip ?_
  refine hK1324 _ _ ?_
  refine wp_seq_k ?_; intro K1326 hK1326
  refine wp_block ?_
  refine wp_seq_k ?_; intro K1327 hK1327
  refine wp_region_lit ?_
  revert aa
  refine qM hR ?_
  intro aa hS
  refine wpList_nil ?_
  refine hK1327 _ _ ?_
  refine wp_block ?_
  refine loopI (X := Nat) [(1, _), (3, _), (4, _), (51, _), (52, _)] (fun x => [(55, .int .i64 (x : Int))]) (fun x => []) _ (fun x => x ≤ 1000) (fun x => 1000 - x) 0 (Nat.zero_le _) (hS.le (Le.cons rfl (Le.nilapp (Le.cons rfl (Le.cons rfl (Le.cons rfl (Le.cons rfl (Le.cons rfl (Le.nil _))))))))) hR ?_
  clear hS hR; rintro wy aa ww hI hS hR; dsimp only [List.cons_append, List.nil_append] at hI hS hR
  refine wp_seq_k ?_; intro K1329 hK1329
  refine wp_region_lit ?_
  refine sA hS hR (Yld.lss hS rfl rfl) (by decide) ?_; clear hS; intro aa hS
  refine wpList_nil ?_
  refine hK1329 _ _ ?_
  refine wp_seq_k ?_; intro K1330 hK1330
  refine hS.splitB (t := 56) rfl ?_ ?_ <;> clear hS
  ·
   intro hg hS
   refine condT hS rfl ?_
   refine wp_skip ?_
   refine hK1330 _ _ ?_
   refine wp_seq_k ?_; intro K1331 hK1331
   refine wp_block ?_
   refine wp_seq_k ?_; intro K1332 hK1332
   refine wp_region_lit ?_
   revert aa
   refine qM hR ?_
   refine qN hR ?_
   intro aa hS
   refine wpList_nil ?_
   refine hK1332 _ _ ?_
   refine wp_seq_k ?_; intro K1333 hK1333
   refine wp_region_lit ?_
   revert aa
   refine qM hR ?_
   intro aa hS
   refine sB (Bcall hS rfl Try.call17 (TbNew_ok (S := cp) (n := 2) hR (by omega) (by omega) (by omega) (by omega)) (by decide) ?_); clear hS; intro aa ww vv hS hp
   clear hR
   obtain ⟨b, rfl, hR⟩ := hp
   revert aa
   refine qM hR ?_
   refine qX hR ?_
   refine qX hR ?_
   refine qN hR ?_
   refine qN hR ?_
   intro aa hS
   refine wpList_nil ?_
   refine hK1333 _ _ ?_
   refine wp_seq_k ?_; intro K1334 hK1334
   refine wp_seq_k ?_; intro K1335 hK1335
   refine wp_region_lit ?_
   revert aa
   refine qM hR ?_
   refine qA hR rfl (fun _ hS => Yld.neq hS rfl rfl) ?_
   refine qB (t := 64) false rfl (by rfl) ?_
   refine qM hR ?_
   refine qMg hR ?_
   refine qAg hR rfl rfl rfl (fun _ hS => Yld.eqlNil hS rfl rfl Try.underlying23) ?_
   refine qB (t := 67) false rfl (by rfl) ?_
   refine qA hR rfl (fun _ hS => Yld.pickF hS rfl rfl) ?_
   intro aa hS
   refine wpList_nil ?_
   refine hK1335 _ _ ?_
   refine condF hS rfl ?_
   refine wp_skip ?_
   refine hK1334 _ _ ?_
   refine wp_seq_k ?_; intro K1336 hK1336
   refine wp_region_lit ?_
   revert aa
   refine qM hR ?_
   intro aa hS
   refine sB (Bcall hS rfl Try.call26 (RNew6_ok (S := cp) (n := 2) hR (by omega) (by omega)) (by decide) ?_); clear hS; intro aa ww vv hS hp
   clear hR
   obtain ⟨b2, rfl, hR⟩ := hp
   revert aa
   refine qN hR ?_
   intro aa hS
   refine wpList_nil ?_
   refine hK1336 _ _ ?_
   refine wp_seq_k ?_; intro K1337 hK1337
   refine wp_seq_k ?_; intro K1338 hK1338
   refine wp_region_lit ?_
   revert aa
   refine qM hR ?_
   refine qN hR ?_
   refine qN hR ?_
   intro aa hS
   refine wpList_nil ?_
   refine hK1338 _ _ ?_
   refine wp_block ?_
   replace hR := hR.pk (r := r16A rt b2 cp 2 { F := [], A := Ar.new cp }) pkQ
   replace hR := hR.pk (r := tableA tt b cp 2 { F := [], A := Ar.new cp }) pkQ
   refine loopI (X := Nat × Nat × Tb) [(1, _), (3, _), (4, _), (5, _), (6, _), (7, _), (8, _), (51, _), (52, _), (55, _), (56, _), (57, _), (58, _), (59, _), (60, _), (61, _), (62, _), (63, _), (64, _), (65, _), (66, _), (67, _), (68, _), (69, _), (70, _), (71, _)] (fun x => [(9, .int .i64 (x.1 : Int)), (10, .int .i64 (x.2.1 : Int))]) (fun x => [tableA tt b cp 2 x.2.2, r16A rt b2 cp 2 x.2.2]) _ (fun x => x.1 ≤ 3 ∧ x.2.1 ≤ 1000 ∧ TF cp 2 x.2.2) (fun x => 3 - x.1) (0, wy, { F := [], A := Ar.new cp }) ⟨Nat.zero_le _, by omega, (new_TI (n := 2) (by omega) (by omega)).tf⟩ (hS.le (Le.cons rfl (Le.cons rfl (Le.nilapp (Le.cons rfl (Le.cons rfl (Le.cons rfl (Le.cons rfl (Le.cons rfl (Le.cons rfl (Le.cons rfl (Le.cons rfl (Le.cons rfl (Le.cons rfl (Le.cons rfl (Le.cons rfl (Le.cons rfl (Le.cons rfl (Le.cons rfl (Le.cons rfl (Le.cons rfl (Le.cons rfl (Le.cons rfl (Le.cons rfl (Le.cons rfl (Le.cons rfl (Le.cons rfl (Le.cons rfl (Le.cons rfl (Le.cons rfl (Le.nil _))))))))))))))))))))))))))))))) hR ?_
   clear hS hR; rintro ⟨i, kk, T⟩ aa ww hI hS hR; dsimp only [List.cons_append, List.nil_append] at hI hS hR
   refine wp_seq_k ?_; intro K1340 hK1340
   refine wp_seq_k ?_; intro K1341 hK1341
   refine wp_region_lit ?_
   revert aa
   refine qM hR ?_
   refine qA hR rfl (fun _ hS => Yld.lss hS rfl rfl) ?_
   intro aa hS
   refine wpList_nil ?_
   refine hK1341 _ _ ?_
   refine hS.splitB (t := 73) rfl ?_ ?_ <;> clear hS
   ·
    intro hg hS
    obtain ⟨a0, a0e⟩ : ∃ y : At9, rs[kk % 10]'(by omega) = y := ⟨_, rfl⟩
    have hoa : Ok9 a0 := by rw [← a0e]; exact hrb _ (List.getElem_mem _)
    refine condT hS rfl ?_
    refine wp_skip ?_
    refine hK1340 _ _ ?_
    refine wp_seq_k ?_; intro K1342 hK1342
    refine wp_block ?_
    refine wp_seq_k ?_; intro K1343 hK1343
    refine wp_region_lit ?_
    revert aa
    refine qM hR ?_
    refine qM hR ?_
    refine qM hR ?_
    refine qM hR ?_
    refine qA hR rfl (fun _ hS => by first | exact Yld.rem64 hS rfl rfl (by omega) | exact Yld.rem hS rfl rfl (by omega)) ?_
    refine qA hR rfl (fun _ hS => ilQ 9 (kk % 10) Try.underlying62 info67) ?_
    refine qA hR rfl (fun _ hS => Yld.loadAgg (vs := eA9 a0) hS rfl Try.underlying67 rfl info67 (a0e ▸ Rds.rec (enc := eA9) (xs := rs) (k := kk % 10) pkQ (by intro _; rfl) (by omega)) (by rfl)) ?_
    intro aa hS
    refine sB (Bcall hS rfl Try.call27 (act16_ok (T := T) (n := 2) (S := cp) (k := a0.2.1) (kd := a0.1) (s := a0.2.2.1) (u := a0.2.2.2.1) (i := a0.2.2.2.2) hoa.k hoa.kd ((hR.pk (r := r16A _ b2 _ _ _) pkQ).pk (r := tableA _ b _ _ _) pkQ)) (by decide) ?_); clear hS; intro aa ww vv hS hp
    clear hR
    obtain ⟨rfl, hR⟩ := hp
    have hT2 := hI.2.2.actT (kd := a0.1) (s := a0.2.2.1) (u := a0.2.2.2.1) (i := a0.2.2.2.2) hoa.k
    obtain ⟨T2, hTe⟩ : ∃ y, actT T 2 a0.1 a0.2.2.1 a0.2.2.2.1 a0.2.1 a0.2.2.2.2 = y := ⟨_, rfl⟩
    rw [hTe] at hR hT2
    revert aa
    refine qA hR rfl (fun _ hS => Yld.not hS rfl) ?_
    refine qB (t := 86) false rfl (by rfl) ?_
    refine qM hR ?_
    refine qMg hR ?_
    refine qMg hR ?_
    refine qMg hR ?_
    refine qMg hR ?_
    refine qAg hR rfl rfl rfl (fun _ hS => by first | exact Yld.rem64 hS rfl rfl (by omega) | exact Yld.rem hS rfl rfl (by omega)) ?_
    refine qAg hR rfl rfl rfl (fun _ hS => ilQ 9 (kk % 10) Try.underlying62 info67) ?_
    refine qAg hR rfl rfl rfl (fun _ hS => Yld.loadAgg (vs := eA9 a0) hS rfl Try.underlying67 rfl info67 (a0e ▸ Rds.rec (enc := eA9) (xs := rs) (k := kk % 10) pkQ (by intro _; rfl) (by omega)) (by rfl)) ?_
    intro aa hS
    refine sBg hS rfl rfl (Bcall hS rfl Try.call28 (look16_ok (T := T2) (n := 2) (S := cp) (k := a0.2.1) (kd := a0.1) (s := a0.2.2.1) (u := a0.2.2.2.1) (i := a0.2.2.2.2) hoa.k hoa.kd ((hR.pk (r := r16A _ b2 _ _ _) pkQ).pk (r := tableA _ b _ _ _) pkQ)) (by decide) ?_); clear hS; intro aa ww vv hS hp
    clear hR
    obtain ⟨rfl, hR⟩ := hp
    revert aa
    refine qAg hR rfl rfl rfl (fun _ hS => Yld.not hS rfl) ?_
    refine qB (t := 96) false rfl (by rfl) ?_
    refine qA hR rfl (fun _ hS => Yld.pickF hS rfl rfl) ?_
    intro aa hS
    refine wpList_nil ?_
    refine hK1343 _ _ ?_
    refine condF hS rfl ?_
    refine wp_skip ?_
    refine hK1342 _ _ ?_
    refine wp_region_lit ?_
    revert aa
    refine qM hR ?_
    intro aa hS
    refine sA hS hR adQ (by decide) ?_; clear hS; intro aa hS
    revert aa
    refine qM hR ?_
    refine qA hR rfl (fun _ hS => by first | exact Yld.quo64 hS rfl rfl (by omega) | exact Yld.quo hS rfl rfl (by omega)) ?_
    intro aa hS
    replace hS := hS.say (t := 77) (.int .i64 ((kk / 10 : Nat) : Int)) rfl (by rw [show (kk : Int) / 10 = ((kk / 10 : Nat) : Int) from by omega])
    revert aa
    refine qN hR ?_
    refine qN hR ?_
    intro aa hS
    refine wpList_nil ?_
    refine ⟨(i + 1, kk / 10, T2), ?_, ?_, hS.le (Le.cons rfl (Le.cons rfl (Le.nilapp (Le.cons rfl (Le.cons rfl (Le.cons rfl (Le.cons rfl (Le.cons rfl (Le.cons rfl (Le.cons rfl (Le.cons rfl (Le.cons rfl (Le.cons rfl (Le.cons rfl (Le.cons rfl (Le.cons rfl (Le.cons rfl (Le.cons rfl (Le.cons rfl (Le.cons rfl (Le.cons rfl (Le.cons rfl (Le.cons rfl (Le.cons rfl (Le.cons rfl (Le.cons rfl (Le.cons rfl (Le.cons rfl (Le.cons rfl (Le.nil _)))))))))))))))))))))))))))))), hR.sub (Ex.take pkQ (Ex.take pkQ (Ex.nilapp exQ)))⟩
    ·
     dsimp only; exact ⟨by omega, by omega, hT2⟩
    ·
     dsimp only; omega
   ·
    intro hg hS
    refine condF hS rfl ?_
    refine wp_exit ?_
    refine hK1337 _ _ ?_
    refine wp_seq_k ?_; intro K1344 hK1344
    refine wp_region_lit ?_
    revert aa
    refine qM hR ?_
    refine qM hR ?_
    intro aa hS
    refine sB (Bcall hS rfl Try.call30 (same16_ok (T := T) (n := 2) (S := cp) (by omega) ((hR.pk (r := r16A _ b2 _ _ _) pkQ).pk (r := tableA _ b _ _ _) pkQ)) (by decide) ?_); clear hS; intro aa ww vv hS hp
    clear hR
    obtain ⟨rfl, hR⟩ := hp
    revert aa
    refine qA hR rfl (fun _ hS => Yld.not hS rfl) ?_
    refine qB (t := 101) false rfl (by rfl) ?_
    intro aa hS
    refine wpList_nil ?_
    refine hK1344 _ _ ?_
    refine condF hS rfl ?_
    refine wp_skip ?_
    refine hK1331 _ _ ?_
    refine wp_region_lit ?_
    refine sA hS hR adQ (by decide) ?_; clear hS; intro aa hS
    revert aa
    refine qM hR ?_
    intro aa hS
    refine wpList_nil ?_
    refine ⟨wy + 1, ?_, ?_, hS.le (Le.cons rfl (Le.nilapp (Le.cons rfl (Le.cons rfl (Le.cons rfl (Le.cons rfl (Le.cons rfl (Le.nil _)))))))), hR.sub (Ex.nilapp exQ)⟩
    ·
     omega
    ·
     omega
  ·
   intro hg hS
   refine condF hS rfl ?_
   refine wp_exit ?_
   refine hK1326 _ _ ?_
   refine wp_region_lit ?_
   revert aa
   refine qM hR ?_
   intro aa hS
   refine sA hS hR adQ (by decide) ?_; clear hS; intro aa hS
   revert aa
   refine qN hR ?_
   intro aa hS
   refine wpList_nil ?_
   refine ⟨cp + 1, ?_, ?_, hS.le (Le.cons rfl (Le.nilapp (Le.cons rfl (Le.cons rfl (Le.nil _))))), hR.sub (Ex.nilapp exQ)⟩
   ·
    omega
   ·
    omega
 ·
  intro hg hS
  refine condF hS rfl ?_
  refine wp_exit ?_
  refine hK1321 _ _ ?_
  refine wp_seq_k ?_; intro K1345 hK1345
  refine wp_seq_k ?_; intro K1346 hK1346
  refine wp_region_lit ?_
  revert aa
  refine qA hR rfl (fun _ hS => Yld.build hS rfl (bld73_0_1 _ _)) ?_
  refine qA hR rfl (fun _ hS => Yld.build hS rfl (bld73_0_1 _ _)) ?_
  refine qA hR rfl (fun _ hS => Yld.build hS rfl (bld73_0_1 _ _)) ?_
  refine qA hR rfl (fun _ hS => Yld.build hS rfl (bld73_0_1 _ _)) ?_
  refine qA hR rfl (fun _ hS => Yld.build hS rfl (bld73_0_1 _ _)) ?_
  refine qA hR rfl (fun _ hS => Yld.build hS rfl (bld73_0_1 _ _)) ?_
  refine qA hR rfl (fun _ hS => Yld.build hS rfl (bld73_0_1 _ _)) ?_
  intro aa hS
  refine sB (BbuildSlice hS hR rfl (bls74_7_0_1_2_3_4_5_6 _ _ _ _ _ _ _ _ _ _ _ _ _ _) (by decide) ?_); clear hS hR; intro aa ww bb110 hS hR
  replace hR := hR.pk (r := blk bb110 _ _) pkQ
  replace hR := Sep.toRecs (m := 7) (sz := 2) (enc := e2) [(0, 1), (1, 0), (1, 1), (4096, 8), (4097, 1), (1, 9), (-1, -1)] hR rfl (by intro _; rfl) rfl
  obtain ⟨ps, hpl, hR⟩ : ∃ ps : List (Int × Int), ps.length = 7 ∧ Sep (sls (some ⟨bb110, 0, none⟩) 7 7 73 2 (ps.flatMap e2) :: _) _ := ⟨_, rfl, hR⟩
  revert aa
  refine qA hR rfl (fun _ hS => Yld.len hS rfl Try.underlying74) ?_
  refine qM hR ?_
  intro aa hS
  refine wpList_nil ?_
  refine hK1346 _ _ ?_
  refine wp_block ?_
  refine loopI (X := Nat) [(1, _), (110, _), (111, _)] (fun x => [(112, .int .i64 (x : Int))]) (fun x => []) _ (fun x => x ≤ 7) (fun x => 7 - x) 0 (Nat.zero_le _) (hS.le (Le.cons rfl (Le.nilapp (Le.cons rfl (Le.cons rfl (Le.cons rfl (Le.nil _))))))) hR ?_
  clear hS hR; rintro j aa ww hI hS hR; dsimp only [List.cons_append, List.nil_append] at hI hS hR
  refine wp_seq_k ?_; intro K1348 hK1348
  refine wp_region_lit ?_
  refine sA hS hR (Yld.lss hS rfl rfl) (by decide) ?_; clear hS; intro aa hS
  refine wpList_nil ?_
  refine hK1348 _ _ ?_
  refine wp_seq_k ?_; intro K1349 hK1349
  refine hS.splitB (t := 113) rfl ?_ ?_ <;> clear hS
  ·
   intro hg hS
   obtain ⟨x0, hx0⟩ : ∃ y, ps[j]'(by omega) = y := ⟨_, rfl⟩
   obtain ⟨xa, xb, hxe⟩ : ∃ xa xb, x0 = (xa, xb) := ⟨x0.1, x0.2, rfl⟩
   refine condT hS rfl ?_
   refine wp_skip ?_
   refine hK1349 _ _ ?_
   refine wp_seq_k ?_; intro K1350 hK1350
   refine wp_block ?_
   refine wp_seq_k ?_; intro K1351 hK1351
   refine wp_region_lit ?_
   revert aa
   refine qA hR rfl (fun _ hS => ilQ 2 (j) Try.underlying74 info73) ?_
   refine qA hR rfl (fun _ hS => Yld.loadAgg (vs := e2 x0) hS rfl Try.underlying73 rfl info73 (hx0 ▸ Rds.rec (enc := e2) (xs := ps) (k := j) pkQ (by intro _; rfl) (by omega)) (by rfl)) ?_
   intro aa hS
   replace hS := hS.say (t := 115) (.agg [.int .i64 xa, .int .i64 xb].toArray) rfl (by rw [hxe]; rfl)
   by_cases hn : 1 ≤ xa ∧ xa ≤ 4096 ∧ 1 ≤ xb ∧ xb ≤ 8
   ·
    refine sB (Balloc hS hR info73 (by rfl) (by rfl) (by decide) ?_); clear hS hR; intro aa ww bb12 hS hR
    obtain ⟨S, rfl⟩ : ∃ y : Nat, xa = (y : Int) := ⟨xa.toNat, by omega⟩
    obtain ⟨p, rfl⟩ : ∃ y : Nat, xb = (y : Int) := ⟨xb.toNat, by omega⟩
    refine sB (Bstore hS hR rfl rfl (by rfl) info73 (by rfl) pkQ (by rfl) (Nat.le_of_ble_eq_true rfl) ?_); clear hR; intro ww hR
    refine wpList_nil ?_
    refine hK1351 _ _ ?_
    refine wp_seq_k ?_; intro K1352 hK1352
    refine wp_region_lit ?_
    refine sA hS hR (Yld.indexArr hS rfl rfl Try.underlying73 info3 (by omega) (by omega)) (by decide) ?_; clear hS; intro aa hS
    refine sA hS hR (Yld.load1 hS rfl Try.underlying3 rfl rdQ) (by decide) ?_; clear hS; intro aa hS
    refine sA hS hR (Yld.indexArr hS rfl rfl Try.underlying73 info3 (by omega) (by omega)) (by decide) ?_; clear hS; intro aa hS
    refine sA hS hR (Yld.load1 hS rfl Try.underlying3 rfl rdQ) (by decide) ?_; clear hS; intro aa hS
    refine sB (Bcall hS rfl Try.call17 (TbNew_ok (S := S) (n := p) hR (by omega) (by omega) (by omega) (by omega)) (by decide) ?_); clear hS; intro aa ww vv hS hp
    clear hR
    obtain ⟨b, rfl, hR⟩ := hp
    revert aa
    refine qM hR ?_
    refine qX hR ?_
    refine qX hR ?_
    refine qN hR ?_
    refine qN hR ?_
    intro aa hS
    refine wpList_nil ?_
    refine hK1352 _ _ ?_
    refine wp_seq_k ?_; intro K1353 hK1353
    refine drawn krQ hR Ex.refl ?_; clear hR; intro ww hR hR0
    revert aa
    refine eA 0 rfl krQ (fun _ _ _ h => h) hR0 rfl (fun _ hS => Yld.move hS rfl) ?_
    refine eA 1 rfl krQ (fun _ _ _ h => h) hR0 rfl (fun _ hS => Yld.eql hS rfl rfl) ?_
    refine qB (t := 125) true rfl (by rfl) ?_
    refine eA 2 rfl krQ (fun _ _ _ h => h) hR0 rfl (fun _ hS => Yld.indexArr hS rfl rfl Try.underlying73 info3 (by omega) (by omega)) ?_
    intro aa hS
    refine dA 3 rfl krQ krQ krQ (fun _ _ _ h => h) hS hR0 (Yld.load1 hS rfl Try.underlying3 rfl rdQ) (by decide) ?_; clear hS; intro aa hS
    revert aa
    refine eA 4 rfl krQ (fun _ _ _ h => h) hR0 rfl (fun _ hS => Yld.indexArr hS rfl rfl Try.underlying73 info3 (by omega) (by omega)) ?_
    intro aa hS
    refine dA 5 rfl krQ krQ krQ (fun _ _ _ h => h) hS hR0 (Yld.load1 hS rfl Try.underlying3 rfl rdQ) (by decide) ?_; clear hS; intro aa hS
    refine dOne (i := 6) krQ ?_
    refine dop rfl (Bcall hS rfl Try.call25 (RRight6_ok (m := (S : Int)) (i := (p : Int)) hR) (by decide) ?_); clear hS; intro aa ww vv hS hp
    clear hR hR0
    obtain ⟨rfl, hR⟩ := hp
    refine dnext (hR.sub exQ) ?_; intro hR0
    revert aa
    refine eA 7 rfl krQ (fun _ _ _ h => h) hR0 rfl (fun _ hS => Yld.neqB hS rfl rfl Try.underlying4) ?_
    refine qB (t := 131) false rfl (by rw [decide_eq_true hn]; rfl) ?_
    refine eA 8 rfl krQ (fun _ _ _ h => h) hR0 rfl (fun _ hS => Yld.move hS rfl) ?_
    refine eAg 9 rfl krQ (fun _ _ _ h => h) hR0 rfl rfl rfl (fun _ hS => Yld.move hS rfl) ?_
    refine eAg 10 rfl krQ (fun _ _ _ h => h) hR0 rfl rfl rfl (fun _ hS => Yld.eql hS rfl rfl) ?_
    refine qB (t := 134) true rfl (by rfl) ?_
    refine eAg 11 rfl krQ (fun _ _ _ h => h) hR0 rfl rfl rfl (fun _ hS => Yld.move hS rfl) ?_
    refine eAg 12 rfl krQ (fun _ _ _ h => h) hR0 rfl rfl rfl (fun _ hS => Yld.move hS rfl) ?_
    refine eAg 13 rfl krQ (fun _ _ _ h => h) hR0 rfl rfl rfl (fun _ hS => Yld.eqlNil hS rfl rfl Try.underlying23) ?_
    refine qB (t := 137) false rfl (by rfl) ?_
    refine eAg 14 rfl krQ (fun _ _ _ h => h) hR0 rfl rfl rfl (fun _ hS => Yld.move hS rfl) ?_
    refine eAg 15 rfl krQ (fun _ _ _ h => h) hR0 rfl rfl rfl (fun _ hS => Yld.move hS rfl) ?_
    refine eAg 17 rfl krQ (fun _ _ _ h => h) hR0 rfl rfl rfl (fun _ hS => Yld.indexArr hS rfl rfl Try.underlying73 info3 (by omega) (by omega)) ?_
    intro aa hS
    refine dAg 18 rfl krQ krQ krQ (fun _ _ _ h => h) hS rfl rfl hR0 (Yld.load1 hS rfl Try.underlying3 rfl rdQ) (by decide) ?_; clear hS; intro aa hS
    refine dOne (i := 16) krQ ?_
    refine dopg rfl hS rfl rfl (Bcall hS rfl Try.call20 (TbRoom_ok (hR.pk (r := tableA _ b _ _ _) pkQ)) (by decide) ?_); clear hS; intro aa ww vv hS hp
    clear hR hR0
    obtain ⟨rfl, hR⟩ := hp
    refine dnext (hR.sub exQ) ?_; intro hR0
    revert aa
    refine eAg 19 rfl krQ (fun _ _ _ h => h) hR0 rfl rfl rfl (fun _ hS => Yld.neq hS rfl rfl) ?_
    refine qB (t := 143) false rfl (by simp) ?_
    refine eAg 20 rfl krQ (fun _ _ _ h => h) hR0 rfl rfl rfl (fun _ hS => Yld.pickF hS rfl rfl) ?_
    refine eAg 21 rfl krQ (fun _ _ _ h => h) hR0 rfl rfl rfl (fun _ hS => Yld.move hS rfl) ?_
    refine eAg 22 rfl krQ (fun _ _ _ h => h) hR0 rfl rfl rfl (fun _ hS => Yld.move hS rfl) ?_
    intro aa hS
    refine dOne (i := 23) krQ ?_
    refine dopg rfl hS rfl rfl (Bcall hS rfl Try.call19 (TbLen_ok (hR.pk (r := tableA _ b _ _ _) pkQ)) (by decide) ?_); clear hS; intro aa ww vv hS hp
    clear hR hR0
    obtain ⟨rfl, hR⟩ := hp
    refine dnext (hR.sub exQ) ?_; intro hR0
    revert aa
    refine eAg 24 rfl krQ (fun _ _ _ h => h) hR0 rfl rfl rfl (fun _ hS => Yld.neq hS rfl rfl) ?_
    refine qB (t := 148) false rfl (by simp) ?_
    refine eAg 25 rfl krQ (fun _ _ _ h => h) hR0 rfl rfl rfl (fun _ hS => Yld.pickF hS rfl rfl) ?_
    refine eAg 26 rfl krQ (fun _ _ _ h => h) hR0 rfl rfl rfl (fun _ hS => Yld.pickT hS rfl rfl) ?_
    refine eA 27 rfl krQ (fun _ _ _ h => h) hR0 rfl (fun _ hS => Yld.pickF hS rfl rfl) ?_
    intro aa hS
    refine wpAnyH_done krQ ?_ _; clear hR0
    refine hK1353 _ _ ?_
    refine condF hS rfl ?_
    refine wp_skip ?_
    refine hK1350 _ _ ?_
    refine wp_region_lit ?_
    refine sA hS hR adQ (by decide) ?_; clear hS; intro aa hS
    revert aa
    refine qM hR ?_
    intro aa hS
    refine wpList_nil ?_
    refine ⟨j + 1, ?_, ?_, hS.le (Le.cons rfl (Le.nilapp (Le.cons rfl (Le.cons rfl (Le.cons rfl (Le.nil _)))))), hR.sub (Ex.nilapp exQ)⟩
    ·
     omega
    ·
     omega
   ·
    refine sB (Balloc hS hR info73 (by rfl) (by rfl) (by decide) ?_); clear hS hR; intro aa ww bb12 hS hR
    refine sB (Bstore hS hR rfl rfl (by rfl) info73 (by rfl) pkQ (by rfl) (Nat.le_of_ble_eq_true rfl) ?_); clear hR; intro ww hR
    refine wpList_nil ?_
    refine hK1351 _ _ ?_
    refine wp_seq_k ?_; intro K1354 hK1354
    refine wp_region_lit ?_
    refine sA hS hR (Yld.indexArr hS rfl rfl Try.underlying73 info3 (by omega) (by omega)) (by decide) ?_; clear hS; intro aa hS
    refine sA hS hR (Yld.load1 hS rfl Try.underlying3 rfl rdQ) (by decide) ?_; clear hS; intro aa hS
    refine sA hS hR (Yld.indexArr hS rfl rfl Try.underlying73 info3 (by omega) (by omega)) (by decide) ?_; clear hS; intro aa hS
    refine sA hS hR (Yld.load1 hS rfl Try.underlying3 rfl rdQ) (by decide) ?_; clear hS; intro aa hS
    refine sB (Bcall hS rfl Try.call17 (TbNew_bad (m := xa) (i := xb) hR hn) (by decide) ?_); clear hS; intro aa ww vv hS hp
    clear hR
    obtain ⟨rfl, hR⟩ := hp
    revert aa
    refine qM hR ?_
    refine qX hR ?_
    refine qX hR ?_
    refine qN hR ?_
    refine qN hR ?_
    intro aa hS
    refine wpList_nil ?_
    refine hK1354 _ _ ?_
    refine wp_seq_k ?_; intro K1355 hK1355
    refine drawn krQ hR Ex.refl ?_; clear hR; intro ww hR hR0
    revert aa
    refine eA 0 rfl krQ (fun _ _ _ h => h) hR0 rfl (fun _ hS => Yld.move hS rfl) ?_
    refine eA 1 rfl krQ (fun _ _ _ h => h) hR0 rfl (fun _ hS => Yld.eql hS rfl rfl) ?_
    refine qB (t := 125) false rfl (by rfl) ?_
    refine eA 2 rfl krQ (fun _ _ _ h => h) hR0 rfl (fun _ hS => Yld.indexArr hS rfl rfl Try.underlying73 info3 (by omega) (by omega)) ?_
    intro aa hS
    refine dA 3 rfl krQ krQ krQ (fun _ _ _ h => h) hS hR0 (Yld.load1 hS rfl Try.underlying3 rfl rdQ) (by decide) ?_; clear hS; intro aa hS
    revert aa
    refine eA 4 rfl krQ (fun _ _ _ h => h) hR0 rfl (fun _ hS => Yld.indexArr hS rfl rfl Try.underlying73 info3 (by omega) (by omega)) ?_
    intro aa hS
    refine dA 5 rfl krQ krQ krQ (fun _ _ _ h => h) hS hR0 (Yld.load1 hS rfl Try.underlying3 rfl rdQ) (by decide) ?_; clear hS; intro aa hS
    refine dOne (i := 6) krQ ?_
    refine dop rfl (Bcall hS rfl Try.call25 (RRight6_ok (m := xa) (i := xb) hR) (by decide) ?_); clear hS; intro aa ww vv hS hp
    clear hR hR0
    obtain ⟨rfl, hR⟩ := hp
    refine dnext (hR.sub exQ) ?_; intro hR0
    revert aa
    refine eA 7 rfl krQ (fun _ _ _ h => h) hR0 rfl (fun _ hS => Yld.neqB hS rfl rfl Try.underlying4) ?_
    refine qB (t := 131) false rfl (by rw [decide_eq_false hn]; rfl) ?_
    refine eA 8 rfl krQ (fun _ _ _ h => h) hR0 rfl (fun _ hS => Yld.move hS rfl) ?_
    refine eAg 9 rfl krQ (fun _ _ _ h => h) hR0 rfl rfl rfl (fun _ hS => Yld.move hS rfl) ?_
    refine eAg 10 rfl krQ (fun _ _ _ h => h) hR0 rfl rfl rfl (fun _ hS => Yld.eql hS rfl rfl) ?_
    refine qB (t := 134) false rfl (by rfl) ?_
    refine eAg 11 rfl krQ (fun _ _ _ h => h) hR0 rfl rfl rfl (fun _ hS => Yld.move hS rfl) ?_
    refine eZ 12 rfl hR0 ?_
    refine eZ 13 rfl hR0 ?_
    refine eZ 14 rfl hR0 ?_
    refine eU 15 rfl hR0 ?_
    refine eU 16 rfl hR0 ?_
    refine eU 17 rfl hR0 ?_
    refine eU 18 rfl hR0 ?_
    refine eU 19 rfl hR0 ?_
    refine eZ 20 rfl hR0 ?_
    refine eZ 21 rfl hR0 ?_
    refine eU 22 rfl hR0 ?_
    refine eU 23 rfl hR0 ?_
    refine eU 24 rfl hR0 ?_
    refine eZ 25 rfl hR0 ?_
    refine eAg 26 rfl krQ (fun _ _ _ h => h) hR0 rfl rfl rfl (fun _ hS => Yld.pickF hS rfl rfl) ?_
    refine eA 27 rfl krQ (fun _ _ _ h => h) hR0 rfl (fun _ hS => Yld.pickF hS rfl rfl) ?_
    intro aa hS
    refine wpAnyH_done krQ ?_ _; clear hR0
    refine hK1355 _ _ ?_
    refine condF hS rfl ?_
    refine wp_skip ?_
    refine hK1350 _ _ ?_
    refine wp_region_lit ?_
    refine sA hS hR adQ (by decide) ?_; clear hS; intro aa hS
    revert aa
    refine qM hR ?_
    intro aa hS
    refine wpList_nil ?_
    refine ⟨j + 1, ?_, ?_, hS.le (Le.cons rfl (Le.nilapp (Le.cons rfl (Le.cons rfl (Le.cons rfl (Le.nil _)))))), hR.sub (Ex.nilapp exQ)⟩
    ·
     omega
    ·
     omega
  ·
   intro hg hS
   refine condF hS rfl ?_
   refine wp_exit ?_
   refine hK1345 _ _ ?_
   refine wp_seq_k ?_; intro K1356 hK1356
   refine wp_seq_k ?_; intro K1357 hK1357
   refine wp_region_lit ?_
   refine sA hS hR (Yld.build hS rfl (bld81_)) (by decide) ?_; clear hS; intro aa hS
   refine sB (Bbox hS hR rfl (by rfl) (by decide) ?_); clear hS hR; intro aa ww bb154 hS hR
   refine sB (BbuildSlice hS hR rfl (bls82_2_0_1 _ _) (by decide) ?_); clear hS hR; intro aa ww bb155 hS hR
   replace hR := hR.pk (r := blk bb155 _ _) pkQ
   replace hR := Sep.toRecs (m := 2) (sz := 1) (enc := ePs) ([none, some ⟨bb154, 0, none⟩] : List (Option Addr)) hR rfl (by intro _; rfl) rfl
   revert aa
   refine qA hR rfl (fun _ hS => Yld.len hS rfl Try.underlying82) ?_
   refine qM hR ?_
   intro aa hS
   refine wpList_nil ?_
   refine hK1357 _ _ ?_
   refine wp_block ?_
   refine loopI (X := Nat) [(1, _), (155, _), (156, _)] (fun x => [(157, .int .i64 (x : Int))]) (fun x => []) _ (fun x => x ≤ 2) (fun x => 2 - x) 0 (Nat.zero_le _) (hS.le (Le.cons rfl (Le.nilapp (Le.cons rfl (Le.cons rfl (Le.cons rfl (Le.nil _))))))) hR ?_
   clear hS hR; rintro x3 aa ww hI hS hR; dsimp only [List.cons_append, List.nil_append] at hI hS hR
   refine wp_seq_k ?_; intro K1359 hK1359
   refine wp_region_lit ?_
   refine sA hS hR (Yld.lss hS rfl rfl) (by decide) ?_; clear hS; intro aa hS
   refine wpList_nil ?_
   refine hK1359 _ _ ?_
   refine wp_seq_k ?_; intro K1360 hK1360
   refine hS.splitB (t := 158) rfl ?_ ?_ <;> clear hS
   ·
    intro hg hS
    have hi2 : x3 < 2 := by omega
    refine condT hS rfl ?_
    refine wp_skip ?_
    refine hK1360 _ _ ?_
    refine wp_seq_k ?_; intro K1361 hK1361
    refine wp_block ?_
    refine wp_seq_k ?_; intro K1362 hK1362
    refine wp_region_lit ?_
    by_cases hn : x3 = 0
    ·
     refine sA hS hR ((ilQ 1 (x3) Try.underlying82 info23)) (by decide) ?_; clear hS; intro aa hS
     try have hi1 : x3 = 1 := by omega
     revert aa
     refine qA hR rfl (fun _ hS => Yld.load1 hS rfl Try.underlying23 rfl (Rd.rec0 (k := x3) (xs := ([none, some ⟨bb154, 0, none⟩] : List (Option Addr))) (v := .pointer none) pkQ (by intro _; rfl) (by show x3 < 2; omega) (by simp only [hn]; rfl))) ?_
     refine qN hR ?_
     intro aa hS
     refine wpList_nil ?_
     refine hK1362 _ _ ?_
     refine wp_seq_k ?_; intro K1363 hK1363
     refine wp_region_lit ?_
     revert aa
     refine qM hR ?_
     intro aa hS
     refine sA hS hR (Yld.loadAgg hS rfl Try.underlying35 rfl info35 rdsQ5 (by rfl)) (by decide) ?_; clear hS; intro aa hS
     refine sB (Bcall hS rfl Try.call18 (tbAdd_nil (b := 0) (s := 0) (u := 0) (i := 0) (k := exA) hR) (by decide) ?_); clear hS; intro aa ww vv hS hp
     clear hR
     obtain ⟨rfl, hR⟩ := hp
     revert aa
     refine qM hR ?_
     refine qX hR ?_
     refine qX hR ?_
     intro aa hS
     refine sB (Balloc hS hR info29 (by rfl) (by rfl) (by decide) ?_); clear hS hR; intro aa ww bb17 hS hR
     refine sB (Bstore hS hR rfl rfl (by rfl) info29 (by rfl) pkQ (by rfl) (Nat.le_of_ble_eq_true rfl) ?_); clear hR; intro ww hR
     revert aa
     refine qN hR ?_
     intro aa hS
     refine wpList_nil ?_
     refine hK1363 _ _ ?_
     refine wp_seq_k ?_; intro K1364 hK1364
     refine wp_region_lit ?_
     revert aa
     refine qM hR ?_
     refine qA hR rfl (fun _ hS => Yld.build hS rfl (bld29_)) ?_
     intro aa hS
     refine sB (Bcall hS rfl Try.call21 (tbOut_nil (b := 0) (s := 0) (u := 0) (i := 0) (k := k0) hR) (by decide) ?_); clear hS; intro aa ww vv hS hp
     clear hR
     obtain ⟨rfl, hR⟩ := hp
     revert aa
     refine qM hR ?_
     refine qX hR ?_
     refine qX hR ?_
     intro aa hS
     refine sB (Balloc hS hR info35 (by rfl) (by rfl) (by decide) ?_); clear hS hR; intro aa ww bb19 hS hR
     refine sB (Bstore hS hR rfl rfl (by rfl) info35 (by rfl) pkQ (by rfl) (Nat.le_of_ble_eq_true rfl) ?_); clear hR; intro ww hR
     revert aa
     refine qN hR ?_
     intro aa hS
     refine wpList_nil ?_
     refine hK1364 _ _ ?_
     refine wp_seq_k ?_; intro K1365 hK1365
     refine wp_region_lit ?_
     revert aa
     refine qM hR ?_
     intro aa hS
     refine sA hS hR (Yld.loadAgg hS rfl Try.underlying35 rfl info35 rdsQ5 (by rfl)) (by decide) ?_; clear hS; intro aa hS
     refine sB (Bcall hS rfl Try.call12 (tbFind_nil (b := 0) (s := 0) (u := 0) (i := 0) (k := exA) hR) (by decide) ?_); clear hS; intro aa ww vv hS hp
     clear hR
     obtain ⟨rfl, hR⟩ := hp
     revert aa
     refine qM hR ?_
     refine qX hR ?_
     refine qX hR ?_
     refine qX hR ?_
     intro aa hS
     refine sB (Balloc hS hR info29 (by rfl) (by rfl) (by decide) ?_); clear hS hR; intro aa ww bb21 hS hR
     refine sB (Bstore hS hR rfl rfl (by rfl) info29 (by rfl) pkQ (by rfl) (Nat.le_of_ble_eq_true rfl) ?_); clear hR; intro ww hR
     revert aa
     refine qN hR ?_
     refine qN hR ?_
     intro aa hS
     refine wpList_nil ?_
     refine hK1365 _ _ ?_
     refine wp_seq_k ?_; intro K1366 hK1366
     refine wp_region_lit ?_
     revert aa
     refine qM hR ?_
     refine qA hR rfl (fun _ hS => Yld.build hS rfl (bld29_)) ?_
     intro aa hS
     refine sB (Bcall hS rfl Try.call22 (tbKey_nil (b := 0) (s := 0) (u := 0) (i := 0) (k := k0) hR) (by decide) ?_); clear hS; intro aa ww vv hS hp
     clear hR
     obtain ⟨rfl, hR⟩ := hp
     revert aa
     refine qM hR ?_
     refine qX hR ?_
     refine qX hR ?_
     intro aa hS
     refine sB (Balloc hS hR info35 (by rfl) (by rfl) (by decide) ?_); clear hS hR; intro aa ww bb24 hS hR
     refine sB (Bstore hS hR rfl rfl (by rfl) info35 (by rfl) pkQ (by rfl) (Nat.le_of_ble_eq_true rfl) ?_); clear hR; intro ww hR
     revert aa
     refine qN hR ?_
     intro aa hS
     refine wpList_nil ?_
     refine hK1366 _ _ ?_
     refine wp_seq_k ?_; intro K1367 hK1367
     refine wp_region_lit ?_
     revert aa
     refine qM hR ?_
     refine qA hR rfl (fun _ hS => Yld.build hS rfl (bld29_)) ?_
     intro aa hS
     refine sB (Bcall hS rfl Try.call13 (tbList_nil (b := 0) (s := 0) (u := 0) (i := 0) (k := k0) hR) (by decide) ?_); clear hS; intro aa ww vv hS hp
     clear hR
     obtain ⟨rfl, hR⟩ := hp
     revert aa
     refine qM hR ?_
     refine qX hR ?_
     refine qX hR ?_
     refine qN hR ?_
     refine qN hR ?_
     intro aa hS
     refine wpList_nil ?_
     refine hK1367 _ _ ?_
     refine wp_seq_k ?_; intro K1368 hK1368
     refine wp_region_lit ?_
     revert aa
     refine qM hR ?_
     intro aa hS
     refine sB (Bcall hS rfl Try.call24 (tbFirst_nil (b := 0) (s := 0) (u := 0) (i := 0) (k := k0) hR) (by decide) ?_); clear hS; intro aa ww vv hS hp
     clear hR
     obtain ⟨rfl, hR⟩ := hp
     revert aa
     refine qM hR ?_
     refine qX hR ?_
     refine qX hR ?_
     intro aa hS
     refine sB (Balloc hS hR info29 (by rfl) (by rfl) (by decide) ?_); clear hS hR; intro aa ww bb28 hS hR
     refine sB (Bstore hS hR rfl rfl (by rfl) info29 (by rfl) pkQ (by rfl) (Nat.le_of_ble_eq_true rfl) ?_); clear hR; intro ww hR
     revert aa
     refine qN hR ?_
     intro aa hS
     refine wpList_nil ?_
     refine hK1368 _ _ ?_
     refine wp_seq_k ?_; intro K1369 hK1369
     refine wp_region_lit ?_
     revert aa
     refine qM hR ?_
     refine qA hR rfl (fun _ hS => Yld.neq hS rfl rfl) ?_
     refine qB (t := 198) false rfl (by rfl) ?_
     refine qM hR ?_
     refine qMg hR ?_
     refine qMg hR ?_
     refine qAg hR rfl rfl rfl (fun _ hS => Yld.neq hS rfl rfl) ?_
     refine qB (t := 202) false rfl (by rfl) ?_
     refine qA hR rfl (fun _ hS => Yld.pickF hS rfl rfl) ?_
     refine qM hR ?_
     refine qMg hR ?_
     refine qAg hR rfl rfl rfl (fun _ hS => Yld.build hS rfl (bld29_)) ?_
     intro aa hS
     refine sBg hS rfl rfl (Bcall hS rfl Try.call15 (tbMove_nil (b := 0) (s := 0) (u := 0) (i := 0) (k := k0) hR) (by decide) ?_); clear hS; intro aa ww vv hS hp
     clear hR
     obtain ⟨rfl, hR⟩ := hp
     revert aa
     refine qMg hR ?_
     refine qAg hR rfl rfl rfl (fun _ hS => Yld.neq hS rfl rfl) ?_
     refine qB (t := 209) false rfl (by rfl) ?_
     refine qA hR rfl (fun _ hS => Yld.pickF hS rfl rfl) ?_
     refine qM hR ?_
     refine qMg hR ?_
     refine qB (t := 212) false rfl (by rfl) ?_
     refine qA hR rfl (fun _ hS => Yld.pickF hS rfl rfl) ?_
     refine qM hR ?_
     refine qMg hR ?_
     refine qB (t := 215) false rfl (by rfl) ?_
     refine qA hR rfl (fun _ hS => Yld.pickF hS rfl rfl) ?_
     refine qM hR ?_
     refine qMg hR ?_
     refine qB (t := 218) false rfl (by rfl) ?_
     refine qA hR rfl (fun _ hS => Yld.pickF hS rfl rfl) ?_
     refine qM hR ?_
     refine qMg hR ?_
     refine qB (t := 221) false rfl (by rfl) ?_
     refine qA hR rfl (fun _ hS => Yld.pickF hS rfl rfl) ?_
     refine qM hR ?_
     refine qMg hR ?_
     intro aa hS
     refine sBg hS rfl rfl (Bcall hS rfl Try.call14 (tbIn_nil (b := 0) (s := 0) (u := 0) (i := 0) (k := k0) hR) (by decide) ?_); clear hS; intro aa ww vv hS hp
     clear hR
     obtain ⟨rfl, hR⟩ := hp
     revert aa
     refine qAg hR rfl rfl rfl (fun _ hS => Yld.len hS rfl Try.underlying38) ?_
     refine qMg hR ?_
     intro aa hS
     refine sBg hS rfl rfl (Bcall hS rfl Try.call32 (tbFrom_nil (b := 0) (s := 0) (u := 0) (i := 0) (k := k0) hR) (by decide) ?_); clear hS; intro aa ww vv hS hp
     clear hR
     obtain ⟨rfl, hR⟩ := hp
     refine sAg hS hR rfl rfl (Yld.len hS rfl Try.underlying38) (by decide) ?_; clear hS; intro aa hS
     refine sAg hS hR rfl rfl adQ (by decide) ?_; clear hS; intro aa hS
     revert aa
     refine qMg hR ?_
     intro aa hS
     refine sBg hS rfl rfl (Bcall hS rfl Try.call29 (tbAll_nil (b := 0) (s := 0) (u := 0) (i := 0) (k := k0) hR) (by decide) ?_); clear hS; intro aa ww vv hS hp
     clear hR
     obtain ⟨rfl, hR⟩ := hp
     refine sAg hS hR rfl rfl (Yld.len hS rfl Try.underlying38) (by decide) ?_; clear hS; intro aa hS
     refine sAg hS hR rfl rfl adQ (by decide) ?_; clear hS; intro aa hS
     revert aa
     refine qMg hR ?_
     intro aa hS
     refine sBg hS rfl rfl (Bcall hS rfl Try.call33 (tbCount_nil (b := 0) (s := 0) (u := 0) (i := 0) (k := k0) hR) (by decide) ?_); clear hS; intro aa ww vv hS hp
     clear hR
     obtain ⟨rfl, hR⟩ := hp
     refine sAg hS hR rfl rfl adQ (by decide) ?_; clear hS; intro aa hS
     revert aa
     refine qMg hR ?_
     intro aa hS
     refine sBg hS rfl rfl (Bcall hS rfl Try.call19 (tbLen_nil (b := 0) (s := 0) (u := 0) (i := 0) (k := k0) hR) (by decide) ?_); clear hS; intro aa ww vv hS hp
     clear hR
     obtain ⟨rfl, hR⟩ := hp
     refine sAg hS hR rfl rfl adQ (by decide) ?_; clear hS; intro aa hS
     revert aa
     refine qMg hR ?_
     intro aa hS
     refine sBg hS rfl rfl (Bcall hS rfl Try.call20 (tbRoom_nil (b := 0) (s := 0) (u := 0) (i := 0) (k := k0) hR) (by decide) ?_); clear hS; intro aa ww vv hS hp
     clear hR
     obtain ⟨rfl, hR⟩ := hp
     refine sAg hS hR rfl rfl adQ (by decide) ?_; clear hS; intro aa hS
     revert aa
     refine qAg hR rfl rfl rfl (fun _ hS => Yld.neq hS rfl rfl) ?_
     refine qB (t := 244) false rfl (by rfl) ?_
     refine qA hR rfl (fun _ hS => Yld.pickF hS rfl rfl) ?_
     intro aa hS
     refine wpList_nil ?_
     refine hK1369 _ _ ?_
     refine condF hS rfl ?_
     refine wp_skip ?_
     refine hK1361 _ _ ?_
     refine wp_region_lit ?_
     refine sA hS hR adQ (by decide) ?_; clear hS; intro aa hS
     revert aa
     refine qM hR ?_
     intro aa hS
     refine wpList_nil ?_
     refine ⟨x3 + 1, ?_, ?_, hS.le (Le.cons rfl (Le.nilapp (Le.cons rfl (Le.cons rfl (Le.cons rfl (Le.nil _)))))), hR.sub (Ex.nilapp exQ)⟩
     ·
      omega
     ·
      omega
    ·
     refine sA hS hR ((ilQ 1 (x3) Try.underlying82 info23)) (by decide) ?_; clear hS; intro aa hS
     try have hi1 : x3 = 1 := by omega
     revert aa
     refine qA hR rfl (fun _ hS => Yld.load1 hS rfl Try.underlying23 rfl (Rd.rec0 (k := x3) (xs := ([none, some ⟨bb154, 0, none⟩] : List (Option Addr))) (v := .pointer (some ⟨bb154, 0, none⟩)) pkQ (by intro _; rfl) (by show x3 < 2; omega) (by simp only [hi1]; rfl))) ?_
     refine qN hR ?_
     intro aa hS
     refine wpList_nil ?_
     refine hK1362 _ _ ?_
     refine wp_seq_k ?_; intro K1370 hK1370
     refine wp_region_lit ?_
     revert aa
     refine qM hR ?_
     intro aa hS
     refine sA hS hR (Yld.loadAgg hS rfl Try.underlying35 rfl info35 rdsQ5 (by rfl)) (by decide) ?_; clear hS; intro aa hS
     refine sB (Bcall hS rfl Try.call18 (tbAdd_zer (s := 0) (u := 0) (i := 0) (k := exA) (hR.pk (r := blk bb154 _ _) pkQ)) (by decide) ?_); clear hS; intro aa ww vv hS hp
     clear hR
     obtain ⟨rfl, hR⟩ := hp
     revert aa
     refine qM hR ?_
     refine qX hR ?_
     refine qX hR ?_
     intro aa hS
     refine sB (Balloc hS hR info29 (by rfl) (by rfl) (by decide) ?_); clear hS hR; intro aa ww bb17 hS hR
     refine sB (Bstore hS hR rfl rfl (by rfl) info29 (by rfl) pkQ (by rfl) (Nat.le_of_ble_eq_true rfl) ?_); clear hR; intro ww hR
     revert aa
     refine qN hR ?_
     intro aa hS
     refine wpList_nil ?_
     refine hK1370 _ _ ?_
     refine wp_seq_k ?_; intro K1371 hK1371
     refine wp_region_lit ?_
     revert aa
     refine qM hR ?_
     refine qA hR rfl (fun _ hS => Yld.build hS rfl (bld29_)) ?_
     intro aa hS
     refine sB (Bcall hS rfl Try.call21 (tbOut_zer (s := 0) (u := 0) (i := 0) (k := k0) (hR.pk (r := blk bb154 _ _) pkQ)) (by decide) ?_); clear hS; intro aa ww vv hS hp
     clear hR
     obtain ⟨rfl, hR⟩ := hp
     revert aa
     refine qM hR ?_
     refine qX hR ?_
     refine qX hR ?_
     intro aa hS
     refine sB (Balloc hS hR info35 (by rfl) (by rfl) (by decide) ?_); clear hS hR; intro aa ww bb19 hS hR
     refine sB (Bstore hS hR rfl rfl (by rfl) info35 (by rfl) pkQ (by rfl) (Nat.le_of_ble_eq_true rfl) ?_); clear hR; intro ww hR
     revert aa
     refine qN hR ?_
     intro aa hS
     refine wpList_nil ?_
     refine hK1371 _ _ ?_
     refine wp_seq_k ?_; intro K1372 hK1372
     refine wp_region_lit ?_
     revert aa
     refine qM hR ?_
     intro aa hS
     refine sA hS hR (Yld.loadAgg hS rfl Try.underlying35 rfl info35 rdsQ5 (by rfl)) (by decide) ?_; clear hS; intro aa hS
     refine sB (Bcall hS rfl Try.call12 (tbFind_zer (s := 0) (u := 0) (i := 0) (k := exA) (hR.pk (r := blk bb154 _ _) pkQ)) (by decide) ?_); clear hS; intro aa ww vv hS hp
     clear hR
     obtain ⟨rfl, hR⟩ := hp
     revert aa
     refine qM hR ?_
     refine qX hR ?_
     refine qX hR ?_
     refine qX hR ?_
     intro aa hS
     refine sB (Balloc hS hR info29 (by rfl) (by rfl) (by decide) ?_); clear hS hR; intro aa ww bb21 hS hR
     refine sB (Bstore hS hR rfl rfl (by rfl) info29 (by rfl) pkQ (by rfl) (Nat.le_of_ble_eq_true rfl) ?_); clear hR; intro ww hR
     revert aa
     refine qN hR ?_
     refine qN hR ?_
     intro aa hS
     refine wpList_nil ?_
     refine hK1372 _ _ ?_
     refine wp_seq_k ?_; intro K1373 hK1373
     refine wp_region_lit ?_
     revert aa
     refine qM hR ?_
     refine qA hR rfl (fun _ hS => Yld.build hS rfl (bld29_)) ?_
     intro aa hS
     refine sB (Bcall hS rfl Try.call22 (tbKey_zer (s := 0) (u := 0) (i := 0) (k := k0) (hR.pk (r := blk bb154 _ _) pkQ)) (by decide) ?_); clear hS; intro aa ww vv hS hp
     clear hR
     obtain ⟨rfl, hR⟩ := hp
     revert aa
     refine qM hR ?_
     refine qX hR ?_
     refine qX hR ?_
     intro aa hS
     refine sB (Balloc hS hR info35 (by rfl) (by rfl) (by decide) ?_); clear hS hR; intro aa ww bb24 hS hR
     refine sB (Bstore hS hR rfl rfl (by rfl) info35 (by rfl) pkQ (by rfl) (Nat.le_of_ble_eq_true rfl) ?_); clear hR; intro ww hR
     revert aa
     refine qN hR ?_
     intro aa hS
     refine wpList_nil ?_
     refine hK1373 _ _ ?_
     refine wp_seq_k ?_; intro K1374 hK1374
     refine wp_region_lit ?_
     revert aa
     refine qM hR ?_
     refine qA hR rfl (fun _ hS => Yld.build hS rfl (bld29_)) ?_
     intro aa hS
     refine sB (Bcall hS rfl Try.call13 (tbList_zer (s := 0) (u := 0) (i := 0) (k := k0) (hR.pk (r := blk bb154 _ _) pkQ)) (by decide) ?_); clear hS; intro aa ww vv hS hp
     clear hR
     obtain ⟨rfl, hR⟩ := hp
     revert aa
     refine qM hR ?_
     refine qX hR ?_
     refine qX hR ?_
     refine qN hR ?_
     refine qN hR ?_
     intro aa hS
     refine wpList_nil ?_
     refine hK1374 _ _ ?_
     refine wp_seq_k ?_; intro K1375 hK1375
     refine wp_region_lit ?_
     revert aa
     refine qM hR ?_
     intro aa hS
     refine sB (Bcall hS rfl Try.call24 (tbFirst_zer (s := 0) (u := 0) (i := 0) (k := k0) (hR.pk (r := blk bb154 _ _) pkQ)) (by decide) ?_); clear hS; intro aa ww vv hS hp
     clear hR
     obtain ⟨rfl, hR⟩ := hp
     revert aa
     refine qM hR ?_
     refine qX hR ?_
     refine qX hR ?_
     intro aa hS
     refine sB (Balloc hS hR info29 (by rfl) (by rfl) (by decide) ?_); clear hS hR; intro aa ww bb28 hS hR
     refine sB (Bstore hS hR rfl rfl (by rfl) info29 (by rfl) pkQ (by rfl) (Nat.le_of_ble_eq_true rfl) ?_); clear hR; intro ww hR
     revert aa
     refine qN hR ?_
     intro aa hS
     refine wpList_nil ?_
     refine hK1375 _ _ ?_
     refine wp_seq_k ?_; intro K1376 hK1376
     refine wp_region_lit ?_
     revert aa
     refine qM hR ?_
     refine qA hR rfl (fun _ hS => Yld.neq hS rfl rfl) ?_
     refine qB (t := 198) false rfl (by rfl) ?_
     refine qM hR ?_
     refine qMg hR ?_
     refine qMg hR ?_
     refine qAg hR rfl rfl rfl (fun _ hS => Yld.neq hS rfl rfl) ?_
     refine qB (t := 202) false rfl (by rfl) ?_
     refine qA hR rfl (fun _ hS => Yld.pickF hS rfl rfl) ?_
     refine qM hR ?_
     refine qMg hR ?_
     refine qAg hR rfl rfl rfl (fun _ hS => Yld.build hS rfl (bld29_)) ?_
     intro aa hS
     refine sBg hS rfl rfl (Bcall hS rfl Try.call15 (tbMove_zer (s := 0) (u := 0) (i := 0) (k := k0) (hR.pk (r := blk bb154 _ _) pkQ)) (by decide) ?_); clear hS; intro aa ww vv hS hp
     clear hR
     obtain ⟨rfl, hR⟩ := hp
     revert aa
     refine qMg hR ?_
     refine qAg hR rfl rfl rfl (fun _ hS => Yld.neq hS rfl rfl) ?_
     refine qB (t := 209) false rfl (by rfl) ?_
     refine qA hR rfl (fun _ hS => Yld.pickF hS rfl rfl) ?_
     refine qM hR ?_
     refine qMg hR ?_
     refine qB (t := 212) false rfl (by rfl) ?_
     refine qA hR rfl (fun _ hS => Yld.pickF hS rfl rfl) ?_
     refine qM hR ?_
     refine qMg hR ?_
     refine qB (t := 215) false rfl (by rfl) ?_
     refine qA hR rfl (fun _ hS => Yld.pickF hS rfl rfl) ?_
     refine qM hR ?_
     refine qMg hR ?_
     refine qB (t := 218) false rfl (by rfl) ?_
     refine qA hR rfl (fun _ hS => Yld.pickF hS rfl rfl) ?_
     refine qM hR ?_
     refine qMg hR ?_
     refine qB (t := 221) false rfl (by rfl) ?_
     refine qA hR rfl (fun _ hS => Yld.pickF hS rfl rfl) ?_
     refine qM hR ?_
     refine qMg hR ?_
     intro aa hS
     refine sBg hS rfl rfl (Bcall hS rfl Try.call14 (tbIn_zer (s := 0) (u := 0) (i := 0) (k := k0) (hR.pk (r := blk bb154 _ _) pkQ)) (by decide) ?_); clear hS; intro aa ww vv hS hp
     clear hR
     obtain ⟨rfl, hR⟩ := hp
     revert aa
     refine qAg hR rfl rfl rfl (fun _ hS => Yld.len hS rfl Try.underlying38) ?_
     refine qMg hR ?_
     intro aa hS
     refine sBg hS rfl rfl (Bcall hS rfl Try.call32 (tbFrom_zer (s := 0) (u := 0) (i := 0) (k := k0) (hR.pk (r := blk bb154 _ _) pkQ)) (by decide) ?_); clear hS; intro aa ww vv hS hp
     clear hR
     obtain ⟨rfl, hR⟩ := hp
     refine sAg hS hR rfl rfl (Yld.len hS rfl Try.underlying38) (by decide) ?_; clear hS; intro aa hS
     refine sAg hS hR rfl rfl adQ (by decide) ?_; clear hS; intro aa hS
     revert aa
     refine qMg hR ?_
     intro aa hS
     refine sBg hS rfl rfl (Bcall hS rfl Try.call29 (tbAll_zer (s := 0) (u := 0) (i := 0) (k := k0) (hR.pk (r := blk bb154 _ _) pkQ)) (by decide) ?_); clear hS; intro aa ww vv hS hp
     clear hR
     obtain ⟨rfl, hR⟩ := hp
     refine sAg hS hR rfl rfl (Yld.len hS rfl Try.underlying38) (by decide) ?_; clear hS; intro aa hS
     refine sAg hS hR rfl rfl adQ (by decide) ?_; clear hS; intro aa hS
     revert aa
     refine qMg hR ?_
     intro aa hS
     refine sBg hS rfl rfl (Bcall hS rfl Try.call33 (tbCount_zer (s := 0) (u := 0) (i := 0) (k := k0) (hR.pk (r := blk bb154 _ _) pkQ)) (by decide) ?_); clear hS; intro aa ww vv hS hp
     clear hR
     obtain ⟨rfl, hR⟩ := hp
     refine sAg hS hR rfl rfl adQ (by decide) ?_; clear hS; intro aa hS
     revert aa
     refine qMg hR ?_
     intro aa hS
     refine sBg hS rfl rfl (Bcall hS rfl Try.call19 (tbLen_zer (s := 0) (u := 0) (i := 0) (k := k0) (hR.pk (r := blk bb154 _ _) pkQ)) (by decide) ?_); clear hS; intro aa ww vv hS hp
     clear hR
     obtain ⟨rfl, hR⟩ := hp
     refine sAg hS hR rfl rfl adQ (by decide) ?_; clear hS; intro aa hS
     revert aa
     refine qMg hR ?_
     intro aa hS
     refine sBg hS rfl rfl (Bcall hS rfl Try.call20 (tbRoom_zer (s := 0) (u := 0) (i := 0) (k := k0) (hR.pk (r := blk bb154 _ _) pkQ)) (by decide) ?_); clear hS; intro aa ww vv hS hp
     clear hR
     obtain ⟨rfl, hR⟩ := hp
     refine sAg hS hR rfl rfl adQ (by decide) ?_; clear hS; intro aa hS
     revert aa
     refine qAg hR rfl rfl rfl (fun _ hS => Yld.neq hS rfl rfl) ?_
     refine qB (t := 244) false rfl (by rfl) ?_
     refine qA hR rfl (fun _ hS => Yld.pickF hS rfl rfl) ?_
     intro aa hS
     refine wpList_nil ?_
     refine hK1376 _ _ ?_
     refine condF hS rfl ?_
     refine wp_skip ?_
     refine hK1361 _ _ ?_
     refine wp_region_lit ?_
     refine sA hS hR adQ (by decide) ?_; clear hS; intro aa hS
     revert aa
     refine qM hR ?_
     intro aa hS
     refine wpList_nil ?_
     refine ⟨x3 + 1, ?_, ?_, hS.le (Le.cons rfl (Le.nilapp (Le.cons rfl (Le.cons rfl (Le.cons rfl (Le.nil _)))))), hR.sub (Ex.nilapp exQ)⟩
     ·
      omega
     ·
      omega
   ·
    intro hg hS
    refine condF hS rfl ?_
    refine wp_exit ?_
    refine hK1356 _ _ ?_
    refine wp_seq_k ?_; intro K1377 hK1377
    refine wp_region_lit ?_
    refine sB (Bcall hS rfl Try.call11 (awake16_ok hR) (by decide) ?_); clear hS; intro aa ww vv hS hp
    clear hR
    obtain ⟨rfl, hR⟩ := hp
    revert aa
    refine qN hR ?_
    intro aa hS
    refine wpList_nil ?_
    refine hK1377 _ _ ?_
    refine wp_ret ?_
    repeat first | with_reducible refine thenR ?_ | with_reducible refine blockR ?_ | with_reducible refine scopeR ?_
    refine ret1 (fn := Try.f9) (e := .ret) (.inl rfl) Try.results9 hS hR ⟨_, (.tmp rfl), ?_⟩
    exact ⟨rfl, (hR.sub exQ)⟩
end Go.Proofs.Ythhndmlfgjcgpaa.Sx
