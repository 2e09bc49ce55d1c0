/-
 
-/
import Derived.Test.YthjfclljjcpikaaRfD
import Derived.Test.YthjfclljjcpikaaPk
namespace Go.Proofs.Ythjfclljjcpikaa.Sx
open Go
set_option linter.unusedVariables false
set_option linter.unusedSimpArgs false

theorem info24 : Try.prog.info? 24 = some Try.t24 := by kernel_rfl
theorem bld30_0_1_2 (x0 : Int) (x1 : Int) (x2 : Int) (w : World) : (Instr.build 30 [(0, .int .u8 x0), (1, .int .u32 x1), (2, .int .i64 x2)].toArray).run Try.prog w = .ok (.agg [.int .u8 x0, .int .u32 x1, .int .i64 x2].toArray) w := by kernel_rfl
theorem bld51_  (w : World) : (Instr.build 51 [].toArray).run Try.prog w = .ok (.agg [.int .i64 0, .slice none 0 0, .pointer none, .pointer none, .pointer none].toArray) w := by kernel_rfl
theorem bls22_4_0_1_2_3 (x0_0 : Int) (x0_1 : Int) (x0_2 : Int) (x1_0 : Int) (x1_1 : Int) (x1_2 : Int) (x2_0 : Int) (x2_1 : Int) (x2_2 : Int) (x3_0 : Int) (x3_1 : Int) (x3_2 : Int) (w : World) : (Instr.buildSlice 22 4 [(0, .agg [.int .u8 x0_0, .int .u32 x0_1, .int .i64 x0_2].toArray), (1, .agg [.int .u8 x1_0, .int .u32 x1_1, .int .i64 x1_2].toArray), (2, .agg [.int .u8 x2_0, .int .u32 x2_1, .int .i64 x2_2].toArray), (3, .agg [.int .u8 x3_0, .int .u32 x3_1, .int .i64 x3_2].toArray)].toArray).run Try.prog w = .ok (.slice (some ⟨w.heap.size, 0, none⟩) 4 4) (w.alloc (.cells ([.int .u8 x0_0, .int .u32 x0_1, .int .i64 x0_2, .int .u8 x1_0, .int .u32 x1_1, .int .i64 x1_2, .int .u8 x2_0, .int .u32 x2_1, .int .i64 x2_2, .int .u8 x3_0, .int .u32 x3_1, .int .i64 x3_2] : List Value).toArray 30)) := by kernel_rfl
theorem bls22_5_0_1_2_3_4 (x0_0 : Int) (x0_1 : Int) (x0_2 : Int) (x1_0 : Int) (x1_1 : Int) (x1_2 : Int) (x2_0 : Int) (x2_1 : Int) (x2_2 : Int) (x3_0 : Int) (x3_1 : Int) (x3_2 : Int) (x4_0 : Int) (x4_1 : Int) (x4_2 : Int) (w : World) : (Instr.buildSlice 22 5 [(0, .agg [.int .u8 x0_0, .int .u32 x0_1, .int .i64 x0_2].toArray), (1, .agg [.int .u8 x1_0, .int .u32 x1_1, .int .i64 x1_2].toArray), (2, .agg [.int .u8 x2_0, .int .u32 x2_1, .int .i64 x2_2].toArray), (3, .agg [.int .u8 x3_0, .int .u32 x3_1, .int .i64 x3_2].toArray), (4, .agg [.int .u8 x4_0, .int .u32 x4_1, .int .i64 x4_2].toArray)].toArray).run Try.prog w = .ok (.slice (some ⟨w.heap.size, 0, none⟩) 5 5) (w.alloc (.cells ([.int .u8 x0_0, .int .u32 x0_1, .int .i64 x0_2, .int .u8 x1_0, .int .u32 x1_1, .int .i64 x1_2, .int .u8 x2_0, .int .u32 x2_1, .int .i64 x2_2, .int .u8 x3_0, .int .u32 x3_1, .int .i64 x3_2, .int .u8 x4_0, .int .u32 x4_1, .int .i64 x4_2] : List Value).toArray 30)) := by kernel_rfl
theorem bls22_6_0_1_2_3_4_5 (x0_0 : Int) (x0_1 : Int) (x0_2 : Int) (x1_0 : Int) (x1_1 : Int) (x1_2 : Int) (x2_0 : Int) (x2_1 : Int) (x2_2 : Int) (x3_0 : Int) (x3_1 : Int) (x3_2 : Int) (x4_0 : Int) (x4_1 : Int) (x4_2 : Int) (x5_0 : Int) (x5_1 : Int) (x5_2 : Int) (w : World) : (Instr.buildSlice 22 6 [(0, .agg [.int .u8 x0_0, .int .u32 x0_1, .int .i64 x0_2].toArray), (1, .agg [.int .u8 x1_0, .int .u32 x1_1, .int .i64 x1_2].toArray), (2, .agg [.int .u8 x2_0, .int .u32 x2_1, .int .i64 x2_2].toArray), (3, .agg [.int .u8 x3_0, .int .u32 x3_1, .int .i64 x3_2].toArray), (4, .agg [.int .u8 x4_0, .int .u32 x4_1, .int .i64 x4_2].toArray), (5, .agg [.int .u8 x5_0, .int .u32 x5_1, .int .i64 x5_2].toArray)].toArray).run Try.prog w = .ok (.slice (some ⟨w.heap.size, 0, none⟩) 6 6) (w.alloc (.cells ([.int .u8 x0_0, .int .u32 x0_1, .int .i64 x0_2, .int .u8 x1_0, .int .u32 x1_1, .int .i64 x1_2, .int .u8 x2_0, .int .u32 x2_1, .int .i64 x2_2, .int .u8 x3_0, .int .u32 x3_1, .int .i64 x3_2, .int .u8 x4_0, .int .u32 x4_1, .int .i64 x4_2, .int .u8 x5_0, .int .u32 x5_1, .int .i64 x5_2] : List Value).toArray 30)) := by kernel_rfl
theorem bls40_14_0_1_2_3_4_5_6_7_8_9_10_11_12_13 (x0 : Int) (x1 : Int) (x2 : Int) (x3 : Int) (x4 : Int) (x5 : Int) (x6 : Int) (x7 : Int) (x8 : Int) (x9 : Int) (x10 : Int) (x11 : Int) (x12 : Int) (x13 : Int) (w : World) : (Instr.buildSlice 40 14 [(0, .int .i64 x0), (1, .int .i64 x1), (2, .int .i64 x2), (3, .int .i64 x3), (4, .int .i64 x4), (5, .int .i64 x5), (6, .int .i64 x6), (7, .int .i64 x7), (8, .int .i64 x8), (9, .int .i64 x9), (10, .int .i64 x10), (11, .int .i64 x11), (12, .int .i64 x12), (13, .int .i64 x13)].toArray).run Try.prog w = .ok (.slice (some ⟨w.heap.size, 0, none⟩) 14 14) (w.alloc (.cells ([.int .i64 x0, .int .i64 x1, .int .i64 x2, .int .i64 x3, .int .i64 x4, .int .i64 x5, .int .i64 x6, .int .i64 x7, .int .i64 x8, .int .i64 x9, .int .i64 x10, .int .i64 x11, .int .i64 x12, .int .i64 x13] : List Value).toArray 3)) := by kernel_rfl
theorem bls52_2_0_1 (x0 : Option Addr) (x1 : Option Addr) (w : World) : (Instr.buildSlice 52 2 [(0, .pointer x0), (1, .pointer x1)].toArray).run Try.prog w = .ok (.slice (some ⟨w.heap.size, 0, none⟩) 2 2) (w.alloc (.cells ([.pointer x0, .pointer x1] : List Value).toArray 24)) := by kernel_rfl

def ePs (p : Option Addr) : List Value := [.pointer p]
set_option maxHeartbeats 8000000 in
set_option maxRecDepth 20000 in
theorem SourceSmall_ok {l : List HP} {w : World} (hR : Sep l w) : CallR Try.prog 5 ([] : List Value) w (fun v w' => v = .bool true ∧ Sep l w') := by
 refine enter Try.func5 rfl Try.ntmps5 (Nat.le_of_ble_eq_true rfl) ?_; intro aa hS
 refine wp_seq_k ?_; intro K1072 hK1072
 refine wp_region_lit ?_
 revert aa
 refine qN hR ?_
 intro aa hS
 refine wpList_nil ?_
 refine hK1072 _ _ ?_
 refine wp_seq_k ?_; intro K1073 hK1073
 refine wp_region_lit ?_
 revert aa
 refine qA hR rfl (fun _ hS => Yld.build hS rfl (bld30_0_1_2 _ _ _)) ?_
 refine qA hR rfl (fun _ hS => Yld.build hS rfl (bld30_0_1_2 _ _ _)) ?_
 refine qA hR rfl (fun _ hS => Yld.build hS rfl (bld30_0_1_2 _ _ _)) ?_
 refine qA hR rfl (fun _ hS => Yld.build hS rfl (bld30_0_1_2 _ _ _)) ?_
 refine qA hR rfl (fun _ hS => Yld.build hS rfl (bld30_0_1_2 _ _ _)) ?_
 refine qA hR rfl (fun _ hS => Yld.build hS rfl (bld30_0_1_2 _ _ _)) ?_
 intro aa hS
 refine sB (BbuildSlice hS hR rfl (bls22_6_0_1_2_3_4_5 _ _ _ _ _ _ _ _ _ _ _ _ _ _ _ _ _ _) (by decide) ?_); clear hS hR; intro aa ww bb22 hS hR
 replace hR := hR.pk (r := blk bb22 _ _) pkQ
 replace hR := Sep.toRecs (m := 6) (sz := 3) (enc := eA3) [(0, 1, 0), (0, 1, 1), (0, 2, 1), (0, 2, 2), (1, 0, 0), (1, 0, 1)] hR rfl (by intro _; rfl) rfl
 obtain ⟨rs, hrl, hrb, hR⟩ : ∃ rs : List At3, rs.length = 6 ∧ (∀ r ∈ rs, Ok3 r) ∧ Sep (sls (some ⟨bb22, 0, none⟩) 6 6 30 3 (rs.flatMap eA3) :: _) _ := ⟨_, rfl, by
  intro r hr
  simp only [List.mem_cons, List.not_mem_nil, or_false] at hr
  rcases hr with rfl | rfl | rfl | rfl | rfl | rfl <;> exact ⟨⟨by decide, by decide⟩, by decide, by decide⟩, hR⟩
 revert aa
 refine qN hR ?_
 intro aa hS
 refine wpList_nil ?_
 refine hK1073 _ _ ?_
 refine wp_seq_k ?_; intro K1074 hK1074
 refine wp_seq_k ?_; intro K1075 hK1075
 refine wp_region_lit ?_
 revert aa
 refine qM hR ?_
 intro aa hS
 refine wpList_nil ?_
 refine hK1075 _ _ ?_
 refine wp_block ?_
 refine loopI (X := Nat) [(1, _)] (fun x => [(23, .int .i64 (x : Int))]) (fun x => []) _ (fun x => x ≤ 7776) (fun x => 7776 - x) 0 (Nat.zero_le _) (hS.le (Le.cons rfl (Le.nilapp (Le.cons rfl (Le.nil _))))) hR ?_
 clear hS hR; rintro x0 aa ww hI hS hR; dsimp only [List.cons_append, List.nil_append] at hI hS hR
 refine wp_seq_k ?_; intro K1077 hK1077
 refine wp_region_lit ?_
 refine sA hS hR (Yld.lss hS rfl rfl) (by decide) ?_; clear hS; intro aa hS
 refine wpList_nil ?_
 refine hK1077 _ _ ?_
 refine wp_seq_k ?_; intro K1078 hK1078
 refine hS.splitB (t := 24) rfl ?_ ?_ <;> clear hS
 ·
  intro hg hS
  obtain ⟨r0, r0e⟩ : ∃ y : At3, rs[x0 % 6]'(by omega) = y := ⟨_, rfl⟩
  have hr0 : Ok3 r0 := by rw [← r0e]; exact hrb _ (List.getElem_mem _)
  obtain ⟨r1, r1e⟩ : ∃ y : At3, rs[x0 / 6 % 6]'(by omega) = y := ⟨_, rfl⟩
  have hr1 : Ok3 r1 := by rw [← r1e]; exact hrb _ (List.getElem_mem _)
  obtain ⟨r2, r2e⟩ : ∃ y : At3, rs[x0 / 36 % 6]'(by omega) = y := ⟨_, rfl⟩
  have hr2 : Ok3 r2 := by rw [← r2e]; exact hrb _ (List.getElem_mem _)
  obtain ⟨r3, r3e⟩ : ∃ y : At3, rs[x0 / 216 % 6]'(by omega) = y := ⟨_, rfl⟩
  have hr3 : Ok3 r3 := by rw [← r3e]; exact hrb _ (List.getElem_mem _)
  obtain ⟨r4, r4e⟩ : ∃ y : At3, rs[x0 / 1296]'(by omega) = y := ⟨_, rfl⟩
  have hr4 : Ok3 r4 := by rw [← r4e]; exact hrb _ (List.getElem_mem _)
  have hb5 : ∀ r ∈ [r0, r1, r2, r3, r4], Ok3 r := by
   intro r hr
   simp only [List.mem_cons, List.not_mem_nil, or_false] at hr
   rcases hr with rfl | rfl | rfl | rfl | rfl <;> assumption
  refine condT hS rfl ?_
  refine wp_skip ?_
  refine hK1078 _ _ ?_
  refine wp_seq_k ?_; intro K1079 hK1079
  refine wp_block ?_
  refine wp_seq_k ?_; intro K1080 hK1080
  refine wp_region_lit ?_
  revert aa
  refine qM hR ?_
  refine qN hR ?_
  intro aa hS
  refine wpList_nil ?_
  refine hK1080 _ _ ?_
  refine wp_seq_k ?_; intro K1081 hK1081
  refine drawn (by kernel_rfl) hR Ex.refl ?_; clear hR; intro ww hR hR0
  revert aa
  refine eA 0 rfl (by kernel_rfl) (fun _ _ _ h => h) hR0 rfl (fun _ hS => Yld.move hS rfl) ?_
  refine eA 1 rfl (by kernel_rfl) (fun _ _ _ h => h) hR0 rfl (fun _ hS => by first | exact Yld.rem64 hS rfl rfl (by omega) | exact Yld.rem hS rfl rfl (by omega)) ?_
  intro aa hS
  refine dA 2 rfl (by kernel_rfl) (by kernel_rfl) (by kernel_rfl) (fun _ _ _ h => h) hS hR0 adQ (by decide) ?_; clear hS; intro aa hS
  revert aa
  refine eA 3 rfl (by kernel_rfl) (fun _ _ _ h => h) hR0 rfl (fun _ hS => Yld.move hS rfl) ?_
  refine eA 4 rfl (by kernel_rfl) (fun _ _ _ h => h) hR0 rfl (fun _ hS => Yld.move hS rfl) ?_
  refine eA 5 rfl (by kernel_rfl) (fun _ _ _ h => h) hR0 rfl (fun _ hS => by first | exact Yld.rem64 hS rfl rfl (by omega) | exact Yld.rem hS rfl rfl (by omega)) ?_
  refine eA 6 rfl (by kernel_rfl) (fun _ _ _ h => h) hR0 rfl (fun _ hS => ilQ 3 (x0 % 6) Try.underlying22 info30) ?_
  refine eA 7 rfl (by kernel_rfl) (fun _ _ _ h => h) hR0 rfl (fun _ hS => Yld.loadAgg (vs := eA3 r0) hS rfl Try.underlying30 rfl info30 (r0e ▸ Rds.rec (enc := eA3) (xs := rs) (k := x0 % 6) pkQ (by intro _; rfl) (by omega)) (by rfl)) ?_
  intro aa hS
  replace hS := hS.say (t := 33) (.agg [.int .u8 r0.1, .int .u32 r0.2.1, .int .i64 r0.2.2].toArray) rfl rfl
  revert aa
  refine eA 8 rfl (by kernel_rfl) (fun _ _ _ h => h) hR0 rfl (fun _ hS => Yld.move hS rfl) ?_
  refine eA 9 rfl (by kernel_rfl) (fun _ _ _ h => h) hR0 rfl (fun _ hS => Yld.move hS rfl) ?_
  refine eA 10 rfl (by kernel_rfl) (fun _ _ _ h => h) hR0 rfl (fun _ hS => by first | exact Yld.quo64 hS rfl rfl (by omega) | exact Yld.quo hS rfl rfl (by omega)) ?_
  refine eA 11 rfl (by kernel_rfl) (fun _ _ _ h => h) hR0 rfl (fun _ hS => by first | exact Yld.rem64 hS rfl rfl (by omega) | exact Yld.rem hS rfl rfl (by omega)) ?_
  refine eA 12 rfl (by kernel_rfl) (fun _ _ _ h => h) hR0 rfl (fun _ hS => ilQ 3 (x0 / 6 % 6) Try.underlying22 info30) ?_
  refine eA 13 rfl (by kernel_rfl) (fun _ _ _ h => h) hR0 rfl (fun _ hS => Yld.loadAgg (vs := eA3 r1) hS rfl Try.underlying30 rfl info30 (r1e ▸ Rds.rec (enc := eA3) (xs := rs) (k := x0 / 6 % 6) pkQ (by intro _; rfl) (by omega)) (by rfl)) ?_
  intro aa hS
  replace hS := hS.say (t := 39) (.agg [.int .u8 r1.1, .int .u32 r1.2.1, .int .i64 r1.2.2].toArray) rfl rfl
  revert aa
  refine eA 14 rfl (by kernel_rfl) (fun _ _ _ h => h) hR0 rfl (fun _ hS => Yld.move hS rfl) ?_
  refine eA 15 rfl (by kernel_rfl) (fun _ _ _ h => h) hR0 rfl (fun _ hS => Yld.move hS rfl) ?_
  refine eA 16 rfl (by kernel_rfl) (fun _ _ _ h => h) hR0 rfl (fun _ hS => by first | exact Yld.quo64 hS rfl rfl (by omega) | exact Yld.quo hS rfl rfl (by omega)) ?_
  refine eA 17 rfl (by kernel_rfl) (fun _ _ _ h => h) hR0 rfl (fun _ hS => by first | exact Yld.rem64 hS rfl rfl (by omega) | exact Yld.rem hS rfl rfl (by omega)) ?_
  refine eA 18 rfl (by kernel_rfl) (fun _ _ _ h => h) hR0 rfl (fun _ hS => ilQ 3 (x0 / 36 % 6) Try.underlying22 info30) ?_
  refine eA 19 rfl (by kernel_rfl) (fun _ _ _ h => h) hR0 rfl (fun _ hS => Yld.loadAgg (vs := eA3 r2) hS rfl Try.underlying30 rfl info30 (r2e ▸ Rds.rec (enc := eA3) (xs := rs) (k := x0 / 36 % 6) pkQ (by intro _; rfl) (by omega)) (by rfl)) ?_
  intro aa hS
  replace hS := hS.say (t := 45) (.agg [.int .u8 r2.1, .int .u32 r2.2.1, .int .i64 r2.2.2].toArray) rfl rfl
  revert aa
  refine eA 20 rfl (by kernel_rfl) (fun _ _ _ h => h) hR0 rfl (fun _ hS => Yld.move hS rfl) ?_
  refine eA 21 rfl (by kernel_rfl) (fun _ _ _ h => h) hR0 rfl (fun _ hS => Yld.move hS rfl) ?_
  refine eA 22 rfl (by kernel_rfl) (fun _ _ _ h => h) hR0 rfl (fun _ hS => by first | exact Yld.quo64 hS rfl rfl (by omega) | exact Yld.quo hS rfl rfl (by omega)) ?_
  refine eA 23 rfl (by kernel_rfl) (fun _ _ _ h => h) hR0 rfl (fun _ hS => by first | exact Yld.rem64 hS rfl rfl (by omega) | exact Yld.rem hS rfl rfl (by omega)) ?_
  refine eA 24 rfl (by kernel_rfl) (fun _ _ _ h => h) hR0 rfl (fun _ hS => ilQ 3 (x0 / 216 % 6) Try.underlying22 info30) ?_
  refine eA 25 rfl (by kernel_rfl) (fun _ _ _ h => h) hR0 rfl (fun _ hS => Yld.loadAgg (vs := eA3 r3) hS rfl Try.underlying30 rfl info30 (r3e ▸ Rds.rec (enc := eA3) (xs := rs) (k := x0 / 216 % 6) pkQ (by intro _; rfl) (by omega)) (by rfl)) ?_
  intro aa hS
  replace hS := hS.say (t := 51) (.agg [.int .u8 r3.1, .int .u32 r3.2.1, .int .i64 r3.2.2].toArray) rfl rfl
  revert aa
  refine eA 26 rfl (by kernel_rfl) (fun _ _ _ h => h) hR0 rfl (fun _ hS => Yld.move hS rfl) ?_
  refine eA 27 rfl (by kernel_rfl) (fun _ _ _ h => h) hR0 rfl (fun _ hS => Yld.move hS rfl) ?_
  refine eA 28 rfl (by kernel_rfl) (fun _ _ _ h => h) hR0 rfl (fun _ hS => by first | exact Yld.quo64 hS rfl rfl (by omega) | exact Yld.quo hS rfl rfl (by omega)) ?_
  refine eA 29 rfl (by kernel_rfl) (fun _ _ _ h => h) hR0 rfl (fun _ hS => ilQ 3 (x0 / 1296) Try.underlying22 info30) ?_
  refine eA 30 rfl (by kernel_rfl) (fun _ _ _ h => h) hR0 rfl (fun _ hS => Yld.loadAgg (vs := eA3 r4) hS rfl Try.underlying30 rfl info30 (r4e ▸ Rds.rec (enc := eA3) (xs := rs) (k := x0 / 1296) pkQ (by intro _; rfl) (by omega)) (by rfl)) ?_
  intro aa hS
  replace hS := hS.say (t := 56) (.agg [.int .u8 r4.1, .int .u32 r4.2.1, .int .i64 r4.2.2].toArray) rfl rfl
  refine dOne (i := 31) (by kernel_rfl) ?_
  refine dop rfl (BbuildSlice hS hR rfl (bls22_5_0_1_2_3_4 _ _ _ _ _ _ _ _ _ _ _ _ _ _ _) (by decide) ?_); clear hS hR hR0; intro aa ww bb57 hS hR
  refine dnext (hR.sub exQ) ?_; intro hR0
  replace hR := hR.pk (r := blk bb57 _ _) pkQ
  replace hR := Sep.toRecs (m := 5) (sz := 3) (enc := eA3) ([r0, r1, r2, r3, r4]) hR rfl (by intro _; rfl) rfl
  refine dOne (i := 32) (by kernel_rfl) ?_
  refine dop rfl (Bcall hS rfl Try.call15 (tells31_ok (m := 3) (i := (1 + (x0 : Int) % 2)) (rows3 (rs := [r0, r1, r2, r3, r4]) pkQ rfl hb5) (by omega) hR) (by decide) ?_); clear hS; intro aa ww vv hS hp
  clear hR hR0
  obtain ⟨rfl, hR⟩ := hp
  refine dnext (hR.sub exQ) ?_; intro hR0
  revert aa
  refine eA 33 rfl (by kernel_rfl) (fun _ _ _ h => h) hR0 rfl (fun _ hS => Yld.not hS rfl) ?_
  refine qB (t := 59) false rfl (by rfl) ?_
  intro aa hS
  refine wpAnyH_done (by kernel_rfl) ?_ _; clear hR0
  refine hK1081 _ _ ?_
  refine condF hS rfl ?_
  refine wp_skip ?_
  refine hK1079 _ _ ?_
  refine wp_region_lit ?_
  refine sA hS hR adQ (by decide) ?_; clear hS; intro aa hS
  revert aa
  refine qM hR ?_
  intro aa hS
  refine wpList_nil ?_
  
  refine ⟨x0 + 1, ?_, ?_, hS.le (Le.cons rfl (Le.nilapp (Le.cons rfl (Le.nil _)))), hR.sub (Ex.nilapp exQ)⟩
  ·
   omega
  ·
   omega
 ·
  intro hg hS
  refine condF hS rfl ?_
  refine wp_exit ?_
  refine hK1074 _ _ ?_
  refine wp_seq_k ?_; intro K1082 hK1082
  refine wp_seq_k ?_; intro K1083 hK1083
  refine wp_region_lit ?_
  refine sB (BbuildSlice hS hR rfl (bls40_14_0_1_2_3_4_5_6_7_8_9_10_11_12_13 _ _ _ _ _ _ _ _ _ _ _ _ _ _) (by decide) ?_); clear hS hR; intro aa ww bb61 hS hR
  replace hR := hR.pk (r := blk bb61 _ _) pkQ
  replace hR := Sep.toRecs (m := 14) (sz := 1) (enc := e1) [-9223372036854775808, -1, 0, 1, 2, 3, 4, 63, 64, 65, 4095, 4096, 4097, 9223372036854775807] hR rfl (by intro _; rfl) rfl
  obtain ⟨nums, hnl, hR⟩ : ∃ nums : List Int, nums.length = 14 ∧ Sep (sls (some ⟨bb61, 0, none⟩) 14 14 3 1 (nums.flatMap e1) :: _) _ := ⟨_, rfl, hR⟩
  revert aa
  refine qA hR rfl (fun _ hS => Yld.len hS rfl Try.underlying40) ?_
  refine qM hR ?_
  intro aa hS
  refine wpList_nil ?_
  refine hK1083 _ _ ?_
  refine wp_block ?_
  refine loopI (X := Nat) [(61, _), (62, _)] (fun x => [(63, .int .i64 (x : Int))]) (fun x => []) _ (fun x => x ≤ 14) (fun x => 14 - x) 0 (Nat.zero_le _) (hS.le (Le.cons rfl (Le.nilapp (Le.cons rfl (Le.cons rfl (Le.nil _)))))) hR ?_
  clear hS hR; rintro x1 aa ww hI hS hR; dsimp only [List.cons_append, List.nil_append] at hI hS hR
  refine wp_seq_k ?_; intro K1085 hK1085
  refine wp_region_lit ?_
  refine sA hS hR (Yld.lss hS rfl rfl) (by decide) ?_; clear hS; intro aa hS
  refine wpList_nil ?_
  refine hK1085 _ _ ?_
  refine wp_seq_k ?_; intro K1086 hK1086
  refine hS.splitB (t := 64) rfl ?_ ?_ <;> clear hS
  ·
   intro hg hS
   obtain ⟨m0, hm0⟩ : ∃ y : Int, nums[x1]'(by omega) = y := ⟨_, rfl⟩
   have hb4 : ∀ r ∈ ([(200, 5, m0), (201, 5, m0), (200, 5, 1), (200, 5, 2)] : List At3), Ok3 r := by
    intro r hr
    simp only [List.mem_cons, List.not_mem_nil, or_false] at hr
    rcases hr with rfl | rfl | rfl | rfl <;> (unfold Ok3; dsimp only; omega)
   refine condT hS rfl ?_
   refine wp_skip ?_
   refine hK1086 _ _ ?_
   refine wp_seq_k ?_; intro K1087 hK1087
   refine wp_block ?_
   refine wp_seq_k ?_; intro K1088 hK1088
   refine wp_region_lit ?_
   revert aa
   refine qA hR rfl (fun _ hS => ilQ 1 (x1) Try.underlying40 info3) ?_
   refine qA hR rfl (fun _ hS => Yld.load1 hS rfl Try.underlying3 rfl (Rd.rec0 (k := x1) (xs := nums) (v := .int .i64 m0) pkQ (by intro _; rfl) (by omega) (by rw [hm0]; rfl))) ?_
   refine qN hR ?_
   intro aa hS
   refine wpList_nil ?_
   refine hK1088 _ _ ?_
   refine wp_seq_k ?_; intro K1089 hK1089
   refine wp_region_lit ?_
   revert aa
   refine qM hR ?_
   refine qM hR ?_
   refine qA hR rfl (fun _ hS => Yld.build hS rfl (bld30_0_1_2 _ _ _)) ?_
   refine qM hR ?_
   refine qA hR rfl (fun _ hS => Yld.build hS rfl (bld30_0_1_2 _ _ _)) ?_
   refine qA hR rfl (fun _ hS => Yld.build hS rfl (bld30_0_1_2 _ _ _)) ?_
   refine qA hR rfl (fun _ hS => Yld.build hS rfl (bld30_0_1_2 _ _ _)) ?_
   intro aa hS
   refine sB (BbuildSlice hS hR rfl (bls22_4_0_1_2_3 _ _ _ _ _ _ _ _ _ _ _ _) (by decide) ?_); clear hS hR; intro aa ww bb74 hS hR
   replace hR := hR.pk (r := blk bb74 _ _) pkQ
   replace hR := Sep.toRecs (m := 4) (sz := 3) (enc := eA3) ([(200, 5, m0), (201, 5, m0), (200, 5, 1), (200, 5, 2)]) hR rfl (by intro _; rfl) rfl
   refine sB (Bcall hS rfl Try.call15 (tells31_ok (m := 3) (i := m0) (rows3 (rs := [(200, 5, m0), (201, 5, m0), (200, 5, 1), (200, 5, 2)]) pkQ rfl hb4) (by omega) hR) (by decide) ?_); clear hS; intro aa ww vv hS hp
   clear hR
   obtain ⟨rfl, hR⟩ := hp
   revert aa
   refine qA hR rfl (fun _ hS => Yld.not hS rfl) ?_
   refine qB (t := 76) false rfl (by rfl) ?_
   refine qM hR ?_
   refine qMg hR ?_
   intro aa hS
   refine sBg hS rfl rfl (Bcall hS rfl Try.call15 (tells31_ok (m := m0) (i := 2) (n := 0) (q := none) (c := 0) (fun k hk => absurd hk (Nat.not_lt_zero _)) (by omega) hR) (by decide) ?_); clear hS; intro aa ww vv hS hp
   clear hR
   obtain ⟨rfl, hR⟩ := hp
   revert aa
   refine qAg hR rfl rfl rfl (fun _ hS => Yld.not hS rfl) ?_
   refine qB (t := 80) false rfl (by rfl) ?_
   refine qA hR rfl (fun _ hS => Yld.pickF hS rfl rfl) ?_
   intro aa hS
   refine wpList_nil ?_
   refine hK1089 _ _ ?_
   refine condF hS rfl ?_
   refine wp_skip ?_
   refine hK1087 _ _ ?_
   refine wp_region_lit ?_
   refine sA hS hR adQ (by decide) ?_; clear hS; intro aa hS
   revert aa
   refine qM hR ?_
   intro aa hS
   refine wpList_nil ?_
   
   refine ⟨x1 + 1, ?_, ?_, hS.le (Le.cons rfl (Le.nilapp (Le.cons rfl (Le.cons rfl (Le.nil _))))), hR.sub (Ex.nilapp exQ)⟩
   ·
    omega
   ·
    omega
  ·
   intro hg hS
   refine condF hS rfl ?_
   refine wp_exit ?_
   refine hK1082 _ _ ?_
   refine wp_seq_k ?_; intro K1090 hK1090
   refine wp_region_lit ?_
   refine sB (Bcall hS rfl Try.call16 (soNew_ok (S := 4096) (lim := 64) hR (by omega) (by omega) (by omega) (by omega)) (by decide) ?_); clear hS; intro aa ww vv hS hp
   clear hR
   obtain ⟨b, rfl, hR⟩ := hp
   revert aa
   refine qM hR ?_
   refine qX hR ?_
   refine qX hR ?_
   refine qN hR ?_
   refine qN hR ?_
   intro aa hS
   refine wpList_nil ?_
   refine hK1090 _ _ ?_
   refine wp_seq_k ?_; intro K1091 hK1091
   refine wp_seq_k ?_; intro K1092 hK1092
   refine wp_region_lit ?_
   revert aa
   refine qM hR ?_
   refine qA hR rfl (fun _ hS => Yld.neq hS rfl rfl) ?_
   refine qB (t := 88) false rfl (by rfl) ?_
   refine qM hR ?_
   refine qMg hR ?_
   refine qAg hR rfl rfl rfl (fun _ hS => Yld.eqlNil hS rfl rfl Try.underlying24) ?_
   refine qB (t := 91) false rfl (by rfl) ?_
   refine qA hR rfl (fun _ hS => Yld.pickF hS rfl rfl) ?_
   intro aa hS
   refine wpList_nil ?_
   refine hK1092 _ _ ?_
   refine condF hS rfl ?_
   refine wp_skip ?_
   refine hK1091 _ _ ?_
   refine wp_seq_k ?_; intro K1093 hK1093
   refine wp_seq_k ?_; intro K1094 hK1094
   refine wp_region_lit ?_
   revert aa
   refine qM hR ?_
   intro aa hS
   refine wpList_nil ?_
   refine hK1094 _ _ ?_
   refine wp_block ?_
   replace hR := hR.pk (r := sourceA ss b 4096 64 (T0 4096)) pkQ
   refine loopI (X := Nat × So) [(5, _)] (fun x => [(93, .int .i64 (x.1 : Int))]) (fun x => [sourceA ss b 4096 64 x.2]) _ (fun x => x.1 ≤ 4096 ∧ BigI x.1 x.2) (fun x => 4096 - x.1) (0, T0 4096) ⟨Nat.zero_le _, BigI.new⟩ (hS.le (Le.cons rfl (Le.nilapp (Le.cons rfl (Le.nil _))))) hR ?_
   clear hS hR; rintro ⟨x2, T⟩ aa ww hI hS hR; dsimp only [List.cons_append, List.nil_append] at hI hS hR
   refine wp_seq_k ?_; intro K1096 hK1096
   refine wp_region_lit ?_
   refine sA hS hR (Yld.lss hS rfl rfl) (by decide) ?_; clear hS; intro aa hS
   refine wpList_nil ?_
   refine hK1096 _ _ ?_
   refine wp_seq_k ?_; intro K1097 hK1097
   refine hS.splitB (t := 94) rfl ?_ ?_ <;> clear hS
   ·
    intro hg hS
    have hx2 : x2 < 4096 := by omega
    refine condT hS rfl ?_
    refine wp_skip ?_
    refine hK1097 _ _ ?_
    refine wp_seq_k ?_; intro K1098 hK1098
    refine wp_block ?_
    refine wp_seq_k ?_; intro K1099 hK1099
    refine wp_region_lit ?_
    revert aa
    refine qM hR ?_
    refine qN hR ?_
    intro aa hS
    refine wpList_nil ?_
    refine hK1099 _ _ ?_
    refine wp_seq_k ?_; intro K1100 hK1100
    refine wp_region_lit ?_
    revert aa
    refine qM hR ?_
    refine qM hR ?_
    refine qA hR rfl (fun _ hS => by first | exact Yld.quo64 hS rfl rfl (by omega) | exact Yld.quo hS rfl rfl (by omega)) ?_
    refine qA hR rfl (fun _ hS => Yld.to (Yld.convInt hS rfl rfl Try.underlying28) (congrArg (Value.int .u32) (IntWalk.u32_in _ (by omega)))) ?_
    refine qA hR rfl (fun _ hS => Yld.to (Yld.shlL 20 1048576 hS rfl rfl rfl (by decide) (by decide)) (congrArg (Value.int .u32) ((IntWalk.u32_in _ (by omega)).trans (show (x2 : Int) / 64 * 1048576 = bigA (x2 / 64) from by unfold bigA; omega)))) ?_
    refine qM hR ?_
    intro aa hS
    refine sB (Bcall hS rfl Try.call17 (soOpen_ok (S := 4096) (lim := 64) (a := bigA (x2 / 64)) (x := (x2 : Int)) (by unfold bigA; omega) (hR.pk (r := sourceA _ b _ _ _) pkQ)) (by decide) ?_); clear hS; intro aa ww vv hS hp
    clear hR
    obtain ⟨rfl, hR⟩ := hp
    obtain ⟨hbe, hbn⟩ := hI.2.next hx2
    rw [hbe] at hS
    revert aa
    refine qA hR rfl (fun _ hS => Yld.neq hS rfl rfl) ?_
    refine qB (t := 103) false rfl (by simp) ?_
    intro aa hS
    refine wpList_nil ?_
    refine hK1100 _ _ ?_
    refine condF hS rfl ?_
    refine wp_skip ?_
    refine hK1098 _ _ ?_
    refine wp_region_lit ?_
    refine sA hS hR adQ (by decide) ?_; clear hS; intro aa hS
    revert aa
    refine qM hR ?_
    intro aa hS
    refine wpList_nil ?_
    
    refine ⟨(x2 + 1, _), ?_, ?_, hS.le (Le.cons rfl (Le.nilapp (Le.cons rfl (Le.nil _)))), hR.sub (Ex.take pkQ (Ex.nilapp exQ))⟩
    ·
     dsimp only; exact ⟨by omega, hbn⟩
    ·
     dsimp only; omega
   ·
    intro hg hS
    obtain rfl : x2 = 4096 := by omega
    have hBg := hI.2
    refine condF hS rfl ?_
    refine wp_exit ?_
    refine hK1093 _ _ ?_
    refine wp_seq_k ?_; intro K1101 hK1101
    refine wp_seq_k ?_; intro K1102 hK1102
    refine wp_region_lit ?_
    revert aa
    refine qM hR ?_
    intro aa hS
    refine sB (Bcall hS rfl Try.call18 (soLen_ok (hR.pk (r := sourceA _ b _ _ _) pkQ)) (by decide) ?_); clear hS; intro aa ww vv hS hp
    clear hR
    obtain ⟨rfl, hR⟩ := hp
    rw [hBg.srcs] at hS
    revert aa
    refine qA hR rfl (fun _ hS => Yld.neq hS rfl rfl) ?_
    refine qB (t := 107) false rfl (by rfl) ?_
    refine qM hR ?_
    refine qMg hR ?_
    intro aa hS
    refine sBg hS rfl rfl (Bcall hS rfl Try.call17 (soOpen_ok (S := 4096) (lim := 64) (a := 0) (x := 0) (by omega) (hR.pk (r := sourceA _ b _ _ _) pkQ)) (by decide) ?_); clear hS; intro aa ww vv hS hp
    clear hR
    obtain ⟨rfl, hR⟩ := hp
    rw [hBg.there.1] at hS; rw [hBg.there.2] at hR
    revert aa
    refine qAg hR rfl rfl rfl (fun _ hS => Yld.neq hS rfl rfl) ?_
    refine qB (t := 111) false rfl (by rfl) ?_
    refine qA hR rfl (fun _ hS => Yld.pickF hS rfl rfl) ?_
    refine qM hR ?_
    refine qMg hR ?_
    intro aa hS
    refine sBg hS rfl rfl (Bcall hS rfl Try.call19 (soRoom_ok (a := 66060288) (by omega) (hR.pk (r := sourceA _ b _ _ _) pkQ)) (by decide) ?_); clear hS; intro aa ww vv hS hp
    clear hR
    obtain ⟨rfl, hR⟩ := hp
    rw [hBg.room] at hS
    revert aa
    refine qAg hR rfl rfl rfl (fun _ hS => Yld.neq hS rfl rfl) ?_
    refine qB (t := 116) false rfl (by rfl) ?_
    refine qA hR rfl (fun _ hS => Yld.pickF hS rfl rfl) ?_
    intro aa hS
    refine wpList_nil ?_
    refine hK1102 _ _ ?_
    refine condF hS rfl ?_
    refine wp_skip ?_
    refine hK1101 _ _ ?_
    refine wp_seq_k ?_; intro K1103 hK1103
    refine wp_seq_k ?_; intro K1104 hK1104
    refine wp_region_lit ?_
    refine sA hS hR (Yld.build hS rfl (bld51_)) (by decide) ?_; clear hS; intro aa hS
    refine sB (Bbox hS hR rfl (by rfl) (by decide) ?_); clear hS hR; intro aa ww bb119 hS hR
    refine sB (BbuildSlice hS hR rfl (bls52_2_0_1 _ _) (by decide) ?_); clear hS hR; intro aa ww bb120 hS hR
    replace hR := hR.pk (r := blk bb120 _ _) pkQ
    replace hR := Sep.toRecs (m := 2) (sz := 1) (enc := ePs) ([none, some ⟨bb119, 0, none⟩] : List (Option Addr)) hR rfl (by intro _; rfl) rfl
    revert aa
    refine qA hR rfl (fun _ hS => Yld.len hS rfl Try.underlying52) ?_
    refine qM hR ?_
    intro aa hS
    refine wpList_nil ?_
    refine hK1104 _ _ ?_
    refine wp_block ?_
    refine loopI (X := Nat) [(120, _), (121, _)] (fun x => [(122, .int .i64 (x : Int))]) (fun x => []) _ (fun x => x ≤ 2) (fun x => 2 - x) 0 (Nat.zero_le _) (hS.le (Le.cons rfl (Le.nilapp (Le.cons rfl (Le.cons rfl (Le.nil _)))))) hR ?_
    clear hS hR; rintro x3 aa ww hI hS hR; dsimp only [List.cons_append, List.nil_append] at hI hS hR
    refine wp_seq_k ?_; intro K1106 hK1106
    refine wp_region_lit ?_
    refine sA hS hR (Yld.lss hS rfl rfl) (by decide) ?_; clear hS; intro aa hS
    refine wpList_nil ?_
    refine hK1106 _ _ ?_
    refine wp_seq_k ?_; intro K1107 hK1107
    refine hS.splitB (t := 123) rfl ?_ ?_ <;> clear hS
    ·
     intro hg hS
     have hi2 : x3 < 2 := by omega
     refine condT hS rfl ?_
     refine wp_skip ?_
     refine hK1107 _ _ ?_
     refine wp_seq_k ?_; intro K1108 hK1108
     refine wp_block ?_
     refine wp_seq_k ?_; intro K1109 hK1109
     refine wp_region_lit ?_
     by_cases hn : x3 = 0
     ·
      refine sA hS hR ((ilQ 1 (x3) Try.underlying52 info24)) (by decide) ?_; clear hS; intro aa hS
      try have hi1 : x3 = 1 := by omega
      revert aa
      refine qA hR rfl (fun _ hS => Yld.load1 hS rfl Try.underlying24 rfl (Rd.rec0 (k := x3) (xs := ([none, some ⟨bb119, 0, none⟩] : List (Option Addr))) (v := .pointer none) pkQ (by intro _; rfl) (by show x3 < 2; omega) (by simp only [hn]; rfl))) ?_
      refine qN hR ?_
      intro aa hS
      refine wpList_nil ?_
      refine hK1109 _ _ ?_
      refine wp_seq_k ?_; intro K1110 hK1110
      refine wp_region_lit ?_
      revert aa
      refine qM hR ?_
      intro aa hS
      refine sB (Bcall hS rfl Try.call20 (soClose_nil (b := 0) (a := 0) (x := -1) hR) (by decide) ?_); clear hS; intro aa ww vv hS hp
      clear hR
      obtain ⟨rfl, hR⟩ := hp
      revert aa
      refine qM hR ?_
      refine qX hR ?_
      refine qX hR ?_
      refine qN hR ?_
      refine qN hR ?_
      intro aa hS
      refine wpList_nil ?_
      refine hK1110 _ _ ?_
      refine wp_seq_k ?_; intro K1111 hK1111
      refine wp_region_lit ?_
      revert aa
      refine qM hR ?_
      intro aa hS
      refine sB (Bcall hS rfl Try.call21 (soOf_nil (b := 0) (a := 0) (x := 0) hR) (by decide) ?_); clear hS; intro aa ww vv hS hp
      clear hR
      obtain ⟨rfl, hR⟩ := hp
      revert aa
      refine qM hR ?_
      refine qX hR ?_
      refine qX hR ?_
      refine qN hR ?_
      refine qN hR ?_
      intro aa hS
      refine wpList_nil ?_
      refine hK1111 _ _ ?_
      refine wp_seq_k ?_; intro K1112 hK1112
      refine wp_region_lit ?_
      revert aa
      refine qM hR ?_
      intro aa hS
      refine sB (Bcall hS rfl Try.call13 (soRecord_nil (b := 0) (a := 0) (x := 0) hR) (by decide) ?_); clear hS; intro aa ww vv hS hp
      clear hR
      obtain ⟨rfl, hR⟩ := hp
      revert aa
      refine qM hR ?_
      refine qX hR ?_
      refine qX hR ?_
      refine qN hR ?_
      refine qN hR ?_
      intro aa hS
      refine wpList_nil ?_
      refine hK1112 _ _ ?_
      refine wp_seq_k ?_; intro K1113 hK1113
      refine wp_region_lit ?_
      revert aa
      refine qM hR ?_
      refine qA hR rfl (fun _ hS => Yld.neq hS rfl rfl) ?_
      refine qB (t := 142) false rfl (by simp) ?_
      refine qM hR ?_
      refine qMg hR ?_
      intro aa hS
      refine sBg hS rfl rfl (Bcall hS rfl Try.call17 (soOpen_nil (b := 0) (a := 0) (x := -1) hR) (by decide) ?_); clear hS; intro aa ww vv hS hp
      clear hR
      obtain ⟨rfl, hR⟩ := hp
      revert aa
      refine qAg hR rfl rfl rfl (fun _ hS => Yld.neq hS rfl rfl) ?_
      refine qB (t := 146) false rfl (by simp) ?_
      refine qA hR rfl (fun _ hS => Yld.pickF hS rfl rfl) ?_
      refine qM hR ?_
      refine qMg hR ?_
      refine qB (t := 149) false rfl (by rfl) ?_
      refine qA hR rfl (fun _ hS => Yld.pickF hS rfl rfl) ?_
      refine qM hR ?_
      refine qMg hR ?_
      refine qB (t := 152) false rfl (by rfl) ?_
      refine qA hR rfl (fun _ hS => Yld.pickF hS rfl rfl) ?_
      refine qM hR ?_
      refine qMg hR ?_
      refine qMg hR ?_
      refine qAg hR rfl rfl rfl (fun _ hS => by first | exact Yld.to (Yld.add hS rfl rfl) (congrArg (Value.int .u32) (IntWalk.u32_in _ (by omega))) | exact Yld.add hS rfl rfl) ?_
      refine qAg hR rfl rfl rfl (fun _ hS => Yld.neq hS rfl rfl) ?_
      refine qB (t := 158) false rfl (by simp) ?_
      refine qA hR rfl (fun _ hS => Yld.pickF hS rfl rfl) ?_
      refine qM hR ?_
      refine qMg hR ?_
      refine qMg hR ?_
      intro aa hS
      refine sBg hS rfl rfl (Bcall hS rfl Try.call14 (soCount_nil (b := 0) (a := 0) (x := 0) hR) (by decide) ?_); clear hS; intro aa ww vv hS hp
      clear hR
      obtain ⟨rfl, hR⟩ := hp
      refine sAg hS hR rfl rfl adQ (by decide) ?_; clear hS; intro aa hS
      revert aa
      refine qMg hR ?_
      intro aa hS
      refine sBg hS rfl rfl (Bcall hS rfl Try.call19 (soRoom_nil (b := 0) (a := 0) (x := 0) hR) (by decide) ?_); clear hS; intro aa ww vv hS hp
      clear hR
      obtain ⟨rfl, hR⟩ := hp
      refine sAg hS hR rfl rfl adQ (by decide) ?_; clear hS; intro aa hS
      revert aa
      refine qMg hR ?_
      intro aa hS
      refine sBg hS rfl rfl (Bcall hS rfl Try.call18 (soLen_nil (b := 0) (a := 0) (x := 0) hR) (by decide) ?_); clear hS; intro aa ww vv hS hp
      clear hR
      obtain ⟨rfl, hR⟩ := hp
      refine sAg hS hR rfl rfl adQ (by decide) ?_; clear hS; intro aa hS
      revert aa
      refine qMg hR ?_
      intro aa hS
      refine sBg hS rfl rfl (Bcall hS rfl Try.call22 (soSlots_nil (b := 0) (a := 0) (x := 0) hR) (by decide) ?_); clear hS; intro aa ww vv hS hp
      clear hR
      obtain ⟨rfl, hR⟩ := hp
      refine sAg hS hR rfl rfl (Yld.len hS rfl Try.underlying40) (by decide) ?_; clear hS; intro aa hS
      refine sAg hS hR rfl rfl adQ (by decide) ?_; clear hS; intro aa hS
      revert aa
      refine qMg hR ?_
      intro aa hS
      refine sBg hS rfl rfl (Bcall hS rfl Try.call23 (soAll_nil (b := 0) (a := 0) (x := 0) hR) (by decide) ?_); clear hS; intro aa ww vv hS hp
      clear hR
      obtain ⟨rfl, hR⟩ := hp
      refine sAg hS hR rfl rfl (Yld.len hS rfl Try.underlying46) (by decide) ?_; clear hS; intro aa hS
      refine sAg hS hR rfl rfl adQ (by decide) ?_; clear hS; intro aa hS
      revert aa
      refine qAg hR rfl rfl rfl (fun _ hS => Yld.neq hS rfl rfl) ?_
      refine qB (t := 179) false rfl (by simp) ?_
      refine qA hR rfl (fun _ hS => Yld.pickF hS rfl rfl) ?_
      intro aa hS
      refine wpList_nil ?_
      refine hK1113 _ _ ?_
      refine condF hS rfl ?_
      refine wp_skip ?_
      refine hK1108 _ _ ?_
      refine wp_region_lit ?_
      refine sA hS hR adQ (by decide) ?_; clear hS; intro aa hS
      revert aa
      refine qM hR ?_
      intro aa hS
      refine wpList_nil ?_
      
      refine ⟨x3 + 1, ?_, ?_, hS.le (Le.cons rfl (Le.nilapp (Le.cons rfl (Le.cons rfl (Le.nil _))))), hR.sub (Ex.nilapp exQ)⟩
      ·
       omega
      ·
       omega
     ·
      refine sA hS hR ((ilQ 1 (x3) Try.underlying52 info24)) (by decide) ?_; clear hS; intro aa hS
      try have hi1 : x3 = 1 := by omega
      revert aa
      refine qA hR rfl (fun _ hS => Yld.load1 hS rfl Try.underlying24 rfl (Rd.rec0 (k := x3) (xs := ([none, some ⟨bb119, 0, none⟩] : List (Option Addr))) (v := .pointer (some ⟨bb119, 0, none⟩)) pkQ (by intro _; rfl) (by show x3 < 2; omega) (by simp only [hi1]; rfl))) ?_
      refine qN hR ?_
      intro aa hS
      refine wpList_nil ?_
      refine hK1109 _ _ ?_
      refine wp_seq_k ?_; intro K1114 hK1114
      refine wp_region_lit ?_
      revert aa
      refine qM hR ?_
      intro aa hS
      refine sB (Bcall hS rfl Try.call20 (soClose_zer (a := 0) (x := -1) (hR.pk (r := blk bb119 _ _) pkQ)) (by decide) ?_); clear hS; intro aa ww vv hS hp
      clear hR
      obtain ⟨rfl, hR⟩ := hp
      revert aa
      refine qM hR ?_
      refine qX hR ?_
      refine qX hR ?_
      refine qN hR ?_
      refine qN hR ?_
      intro aa hS
      refine wpList_nil ?_
      refine hK1114 _ _ ?_
      refine wp_seq_k ?_; intro K1115 hK1115
      refine wp_region_lit ?_
      revert aa
      refine qM hR ?_
      intro aa hS
      refine sB (Bcall hS rfl Try.call21 (soOf_zer (a := 0) (x := 0) (hR.pk (r := blk bb119 _ _) pkQ)) (by decide) ?_); clear hS; intro aa ww vv hS hp
      clear hR
      obtain ⟨rfl, hR⟩ := hp
      revert aa
      refine qM hR ?_
      refine qX hR ?_
      refine qX hR ?_
      refine qN hR ?_
      refine qN hR ?_
      intro aa hS
      refine wpList_nil ?_
      refine hK1115 _ _ ?_
      refine wp_seq_k ?_; intro K1116 hK1116
      refine wp_region_lit ?_
      revert aa
      refine qM hR ?_
      intro aa hS
      refine sB (Bcall hS rfl Try.call13 (soRecord_zer (a := 0) (x := 0) (hR.pk (r := blk bb119 _ _) pkQ)) (by decide) ?_); clear hS; intro aa ww vv hS hp
      clear hR
      obtain ⟨rfl, hR⟩ := hp
      revert aa
      refine qM hR ?_
      refine qX hR ?_
      refine qX hR ?_
      refine qN hR ?_
      refine qN hR ?_
      intro aa hS
      refine wpList_nil ?_
      refine hK1116 _ _ ?_
      refine wp_seq_k ?_; intro K1117 hK1117
      refine wp_region_lit ?_
      revert aa
      refine qM hR ?_
      refine qA hR rfl (fun _ hS => Yld.neq hS rfl rfl) ?_
      refine qB (t := 142) false rfl (by simp) ?_
      refine qM hR ?_
      refine qMg hR ?_
      intro aa hS
      refine sBg hS rfl rfl (Bcall hS rfl Try.call17 (soOpen_zer (a := 0) (x := -1) (hR.pk (r := blk bb119 _ _) pkQ)) (by decide) ?_); clear hS; intro aa ww vv hS hp
      clear hR
      obtain ⟨rfl, hR⟩ := hp
      revert aa
      refine qAg hR rfl rfl rfl (fun _ hS => Yld.neq hS rfl rfl) ?_
      refine qB (t := 146) false rfl (by simp) ?_
      refine qA hR rfl (fun _ hS => Yld.pickF hS rfl rfl) ?_
      refine qM hR ?_
      refine qMg hR ?_
      refine qB (t := 149) false rfl (by rfl) ?_
      refine qA hR rfl (fun _ hS => Yld.pickF hS rfl rfl) ?_
      refine qM hR ?_
      refine qMg hR ?_
      refine qB (t := 152) false rfl (by rfl) ?_
      refine qA hR rfl (fun _ hS => Yld.pickF hS rfl rfl) ?_
      refine qM hR ?_
      refine qMg hR ?_
      refine qMg hR ?_
      refine qAg hR rfl rfl rfl (fun _ hS => by first | exact Yld.to (Yld.add hS rfl rfl) (congrArg (Value.int .u32) (IntWalk.u32_in _ (by omega))) | exact Yld.add hS rfl rfl) ?_
      refine qAg hR rfl rfl rfl (fun _ hS => Yld.neq hS rfl rfl) ?_
      refine qB (t := 158) false rfl (by simp) ?_
      refine qA hR rfl (fun _ hS => Yld.pickF hS rfl rfl) ?_
      refine qM hR ?_
      refine qMg hR ?_
      refine qMg hR ?_
      intro aa hS
      refine sBg hS rfl rfl (Bcall hS rfl Try.call14 (soCount_zer (a := 0) (x := 0) (hR.pk (r := blk bb119 _ _) pkQ)) (by decide) ?_); clear hS; intro aa ww vv hS hp
      clear hR
      obtain ⟨rfl, hR⟩ := hp
      refine sAg hS hR rfl rfl adQ (by decide) ?_; clear hS; intro aa hS
      revert aa
      refine qMg hR ?_
      intro aa hS
      refine sBg hS rfl rfl (Bcall hS rfl Try.call19 (soRoom_zer (a := 0) (x := 0) (hR.pk (r := blk bb119 _ _) pkQ)) (by decide) ?_); clear hS; intro aa ww vv hS hp
      clear hR
      obtain ⟨rfl, hR⟩ := hp
      refine sAg hS hR rfl rfl adQ (by decide) ?_; clear hS; intro aa hS
      revert aa
      refine qMg hR ?_
      intro aa hS
      refine sBg hS rfl rfl (Bcall hS rfl Try.call18 (soLen_zer (a := 0) (x := 0) (hR.pk (r := blk bb119 _ _) pkQ)) (by decide) ?_); clear hS; intro aa ww vv hS hp
      clear hR
      obtain ⟨rfl, hR⟩ := hp
      refine sAg hS hR rfl rfl adQ (by decide) ?_; clear hS; intro aa hS
      revert aa
      refine qMg hR ?_
      intro aa hS
      refine sBg hS rfl rfl (Bcall hS rfl Try.call22 (soSlots_zer (a := 0) (x := 0) (hR.pk (r := blk bb119 _ _) pkQ)) (by decide) ?_); clear hS; intro aa ww vv hS hp
      clear hR
      obtain ⟨rfl, hR⟩ := hp
      refine sAg hS hR rfl rfl (Yld.len hS rfl Try.underlying40) (by decide) ?_; clear hS; intro aa hS
      refine sAg hS hR rfl rfl adQ (by decide) ?_; clear hS; intro aa hS
      revert aa
      refine qMg hR ?_
      intro aa hS
      refine sBg hS rfl rfl (Bcall hS rfl Try.call23 (soAll_zer (a := 0) (x := 0) (hR.pk (r := blk bb119 _ _) pkQ)) (by decide) ?_); clear hS; intro aa ww vv hS hp
      clear hR
      obtain ⟨rfl, hR⟩ := hp
      refine sAg hS hR rfl rfl (Yld.len hS rfl Try.underlying46) (by decide) ?_; clear hS; intro aa hS
      refine sAg hS hR rfl rfl adQ (by decide) ?_; clear hS; intro aa hS
      revert aa
      refine qAg hR rfl rfl rfl (fun _ hS => Yld.neq hS rfl rfl) ?_
      refine qB (t := 179) false rfl (by simp) ?_
      refine qA hR rfl (fun _ hS => Yld.pickF hS rfl rfl) ?_
      intro aa hS
      refine wpList_nil ?_
      refine hK1117 _ _ ?_
      refine condF hS rfl ?_
      refine wp_skip ?_
      refine hK1108 _ _ ?_
      refine wp_region_lit ?_
      refine sA hS hR adQ (by decide) ?_; clear hS; intro aa hS
      revert aa
      refine qM hR ?_
      intro aa hS
      refine wpList_nil ?_
      
      refine ⟨x3 + 1, ?_, ?_, hS.le (Le.cons rfl (Le.nilapp (Le.cons rfl (Le.cons rfl (Le.nil _))))), hR.sub (Ex.nilapp exQ)⟩
      ·
       omega
      ·
       omega
    ·
     intro hg hS
     refine condF hS rfl ?_
     refine wp_exit ?_
     refine hK1103 _ _ ?_
     refine wp_seq_k ?_; intro K1118 hK1118
     refine wp_region_lit ?_
     refine sB (Bcall hS rfl Try.call10 (awake31_ok hR) (by decide) ?_); clear hS; intro aa ww vv hS hp
     clear hR
     obtain ⟨rfl, hR⟩ := hp
     revert aa
     refine qN hR ?_
     intro aa hS
     refine wpList_nil ?_
     refine hK1118 _ _ ?_
     refine wp_ret ?_
     repeat first | with_reducible refine thenR ?_ | with_reducible refine blockR ?_ | with_reducible refine scopeR ?_
     refine ret1 (fn := Try.f5) (e := .ret) (.inl rfl) Try.results5 hS hR ⟨_, (.tmp rfl), ?_⟩
     exact ⟨rfl, (hR.sub exQ)⟩
end Go.Proofs.Ythjfclljjcpikaa.Sx
