/-
  
-/
import Derived.Test.YtmcfmhiadlkglaaRxD
namespace Go.Proofs.Ytmcfmhiadlkglaa.Sx
open Go
set_option linter.unusedVariables false
set_option linter.unusedSimpArgs false

theorem info26 : Try.prog.info? 26 = some Try.t26 := by kernel_rfl
theorem info60 : Try.prog.info? 60 = some Try.t60 := by kernel_rfl
theorem bld34_2 (x2 : Int) (w : World) : (Instr.build 34 [(2, .int .u32 x2)].toArray).run Try.prog w = .ok (.agg [.int .u8 0, .int .u32 0, .int .u32 x2, .int .u16 0, .int .u16 0].toArray) w := by kernel_rfl
theorem bld58_0 (x0 : Int) (w : World) : (Instr.build 58 [(0, .int .i64 x0)].toArray).run Try.prog w = .ok (.agg [.int .i64 x0, .slice none 0 0, .slice none 0 0].toArray) w := by kernel_rfl
theorem bld60_0_1 (x0 : Int) (x1_0 : Int) (x1_1 : Int) (x1_2 : Int) (x1_3 : Int) (x1_4 : Int) (w : World) : (Instr.build 60 [(0, .int .u8 x0), (1, .agg [.int .u8 x1_0, .int .u32 x1_1, .int .u32 x1_2, .int .u16 x1_3, .int .u16 x1_4].toArray)].toArray).run Try.prog w = .ok (.agg [.int .u8 x0, .int .u8 x1_0, .int .u32 x1_1, .int .u32 x1_2, .int .u16 x1_3, .int .u16 x1_4, .int .i64 0].toArray) w := by kernel_rfl
theorem bld60_0_1_2 (x0 : Int) (x1_0 : Int) (x1_1 : Int) (x1_2 : Int) (x1_3 : Int) (x1_4 : Int) (x2 : Int) (w : World) : (Instr.build 60 [(0, .int .u8 x0), (1, .agg [.int .u8 x1_0, .int .u32 x1_1, .int .u32 x1_2, .int .u16 x1_3, .int .u16 x1_4].toArray), (2, .int .i64 x2)].toArray).run Try.prog w = .ok (.agg [.int .u8 x0, .int .u8 x1_0, .int .u32 x1_1, .int .u32 x1_2, .int .u16 x1_3, .int .u16 x1_4, .int .i64 x2].toArray) w := by kernel_rfl
theorem bld60_1 (x1_0 : Int) (x1_1 : Int) (x1_2 : Int) (x1_3 : Int) (x1_4 : Int) (w : World) : (Instr.build 60 [(1, .agg [.int .u8 x1_0, .int .u32 x1_1, .int .u32 x1_2, .int .u16 x1_3, .int .u16 x1_4].toArray)].toArray).run Try.prog w = .ok (.agg [.int .u8 0, .int .u8 x1_0, .int .u32 x1_1, .int .u32 x1_2, .int .u16 x1_3, .int .u16 x1_4, .int .i64 0].toArray) w := by kernel_rfl
theorem bld60_1_2 (x1_0 : Int) (x1_1 : Int) (x1_2 : Int) (x1_3 : Int) (x1_4 : Int) (x2 : Int) (w : World) : (Instr.build 60 [(1, .agg [.int .u8 x1_0, .int .u32 x1_1, .int .u32 x1_2, .int .u16 x1_3, .int .u16 x1_4].toArray), (2, .int .i64 x2)].toArray).run Try.prog w = .ok (.agg [.int .u8 0, .int .u8 x1_0, .int .u32 x1_1, .int .u32 x1_2, .int .u16 x1_3, .int .u16 x1_4, .int .i64 x2].toArray) w := by kernel_rfl
theorem bld69_  (w : World) : (Instr.build 69 [].toArray).run Try.prog w = .ok (.agg [.slice none 0 0, .slice none 0 0, .int .i64 0].toArray) w := by kernel_rfl
theorem bls53_10_0_1_2_3_4_5_6_7_8_9 (x0_0 : Int) (x0_1 : Int) (x0_2 : Int) (x0_3 : Int) (x0_4 : Int) (x0_5 : Int) (x0_6 : Int) (x1_0 : Int) (x1_1 : Int) (x1_2 : Int) (x1_3 : Int) (x1_4 : Int) (x1_5 : Int) (x1_6 : Int) (x2_0 : Int) (x2_1 : Int) (x2_2 : Int) (x2_3 : Int) (x2_4 : Int) (x2_5 : Int) (x2_6 : Int) (x3_0 : Int) (x3_1 : Int) (x3_2 : Int) (x3_3 : Int) (x3_4 : Int) (x3_5 : Int) (x3_6 : Int) (x4_0 : Int) (x4_1 : Int) (x4_2 : Int) (x4_3 : Int) (x4_4 : Int) (x4_5 : Int) (x4_6 : Int) (x5_0 : Int) (x5_1 : Int) (x5_2 : Int) (x5_3 : Int) (x5_4 : Int) (x5_5 : Int) (x5_6 : Int) (x6_0 : Int) (x6_1 : Int) (x6_2 : Int) (x6_3 : Int) (x6_4 : Int) (x6_5 : Int) (x6_6 : Int) (x7_0 : Int) (x7_1 : Int) (x7_2 : Int) (x7_3 : Int) (x7_4 : Int) (x7_5 : Int) (x7_6 : Int) (x8_0 : Int) (x8_1 : Int) (x8_2 : Int) (x8_3 : Int) (x8_4 : Int) (x8_5 : Int) (x8_6 : Int) (x9_0 : Int) (x9_1 : Int) (x9_2 : Int) (x9_3 : Int) (x9_4 : Int) (x9_5 : Int) (x9_6 : Int) (w : World) : (Instr.buildSlice 53 10 [(0, .agg [.int .u8 x0_0, .int .u8 x0_1, .int .u32 x0_2, .int .u32 x0_3, .int .u16 x0_4, .int .u16 x0_5, .int .i64 x0_6].toArray), (1, .agg [.int .u8 x1_0, .int .u8 x1_1, .int .u32 x1_2, .int .u32 x1_3, .int .u16 x1_4, .int .u16 x1_5, .int .i64 x1_6].toArray), (2, .agg [.int .u8 x2_0, .int .u8 x2_1, .int .u32 x2_2, .int .u32 x2_3, .int .u16 x2_4, .int .u16 x2_5, .int .i64 x2_6].toArray), (3, .agg [.int .u8 x3_0, .int .u8 x3_1, .int .u32 x3_2, .int .u32 x3_3, .int .u16 x3_4, .int .u16 x3_5, .int .i64 x3_6].toArray), (4, .agg [.int .u8 x4_0, .int .u8 x4_1, .int .u32 x4_2, .int .u32 x4_3, .int .u16 x4_4, .int .u16 x4_5, .int .i64 x4_6].toArray), (5, .agg [.int .u8 x5_0, .int .u8 x5_1, .int .u32 x5_2, .int .u32 x5_3, .int .u16 x5_4, .int .u16 x5_5, .int .i64 x5_6].toArray), (6, .agg [.int .u8 x6_0, .int .u8 x6_1, .int .u32 x6_2, .int .u32 x6_3, .int .u16 x6_4, .int .u16 x6_5, .int .i64 x6_6].toArray), (7, .agg [.int .u8 x7_0, .int .u8 x7_1, .int .u32 x7_2, .int .u32 x7_3, .int .u16 x7_4, .int .u16 x7_5, .int .i64 x7_6].toArray), (8, .agg [.int .u8 x8_0, .int .u8 x8_1, .int .u32 x8_2, .int .u32 x8_3, .int .u16 x8_4, .int .u16 x8_5, .int .i64 x8_6].toArray), (9, .agg [.int .u8 x9_0, .int .u8 x9_1, .int .u32 x9_2, .int .u32 x9_3, .int .u16 x9_4, .int .u16 x9_5, .int .i64 x9_6].toArray)].toArray).run Try.prog w = .ok (.slice (some ⟨w.heap.size, 0, none⟩) 10 10) (w.alloc (.cells ([.int .u8 x0_0, .int .u8 x0_1, .int .u32 x0_2, .int .u32 x0_3, .int .u16 x0_4, .int .u16 x0_5, .int .i64 x0_6, .int .u8 x1_0, .int .u8 x1_1, .int .u32 x1_2, .int .u32 x1_3, .int .u16 x1_4, .int .u16 x1_5, .int .i64 x1_6, .int .u8 x2_0, .int .u8 x2_1, .int .u32 x2_2, .int .u32 x2_3, .int .u16 x2_4, .int .u16 x2_5, .int .i64 x2_6, .int .u8 x3_0, .int .u8 x3_1, .int .u32 x3_2, .int .u32 x3_3, .int .u16 x3_4, .int .u16 x3_5, .int .i64 x3_6, .int .u8 x4_0, .int .u8 x4_1, .int .u32 x4_2, .int .u32 x4_3, .int .u16 x4_4, .int .u16 x4_5, .int .i64 x4_6, .int .u8 x5_0, .int .u8 x5_1, .int .u32 x5_2, .int .u32 x5_3, .int .u16 x5_4, .int .u16 x5_5, .int .i64 x5_6, .int .u8 x6_0, .int .u8 x6_1, .int .u32 x6_2, .int .u32 x6_3, .int .u16 x6_4, .int .u16 x6_5, .int .i64 x6_6, .int .u8 x7_0, .int .u8 x7_1, .int .u32 x7_2, .int .u32 x7_3, .int .u16 x7_4, .int .u16 x7_5, .int .i64 x7_6, .int .u8 x8_0, .int .u8 x8_1, .int .u32 x8_2, .int .u32 x8_3, .int .u16 x8_4, .int .u16 x8_5, .int .i64 x8_6, .int .u8 x9_0, .int .u8 x9_1, .int .u32 x9_2, .int .u32 x9_3, .int .u16 x9_4, .int .u16 x9_5, .int .i64 x9_6] : List Value).toArray 60)) := by kernel_rfl
theorem bls56_6_0_1_2_3_4_5 (x0 : Int) (x1 : Int) (x2 : Int) (x3 : Int) (x4 : Int) (x5 : Int) (w : World) : (Instr.buildSlice 56 6 [(0, .int .i64 x0), (1, .int .i64 x1), (2, .int .i64 x2), (3, .int .i64 x3), (4, .int .i64 x4), (5, .int .i64 x5)].toArray).run Try.prog w = .ok (.slice (some ⟨w.heap.size, 0, none⟩) 6 6) (w.alloc (.cells ([.int .i64 x0, .int .i64 x1, .int .i64 x2, .int .i64 x3, .int .i64 x4, .int .i64 x5] : List Value).toArray 3)) := by kernel_rfl
theorem bls70_2_0_1 (x0 : Option Addr) (x1 : Option Addr) (w : World) : (Instr.buildSlice 70 2 [(0, .pointer x0), (1, .pointer x1)].toArray).run Try.prog w = .ok (.slice (some ⟨w.heap.size, 0, none⟩) 2 2) (w.alloc (.cells ([.pointer x0, .pointer x1] : List Value).toArray 26)) := by kernel_rfl

def ePs (p : Option Addr) : List Value := [.pointer p]
set_option maxHeartbeats 8000000 in
set_option maxRecDepth 20000 in
theorem TrieSmall_ok {l : List HP} {w : World} (hR : Sep l w) : CallR Try.prog 8 ([] : List Value) w (fun v w' => v = .bool true ∧ Sep l w') := by
  refine enter Try.func8 rfl Try.ntmps8 (Nat.le_of_ble_eq_true rfl) ?_; intro aa hS
  refine wp_seq_k ?_; intro K523 hK523
  refine wp_region_lit ?_
  refine sA hS hR (Yld.assign hS rfl) (by decide) ?_; clear hS; intro aa hS
  refine wpList_nil ?_
  refine hK523 _ _ ?_
  refine wp_seq_k ?_; intro K524 hK524
  refine wp_seq_k ?_; intro K525 hK525
  refine wp_region_lit ?_
  refine sA hS hR (Yld.move hS rfl) (by decide) ?_; clear hS; intro aa hS
  refine wpList_nil ?_
  refine hK525 _ _ ?_
  refine wp_block ?_
  refine loopI (X := Nat) [] (fun x => [(22, .int .i64 (x : Int))]) (fun x => []) _ (fun x => x ≤ 26) (fun x => 26 - x) 0 (Nat.zero_le _) (hS.le (Le.cons rfl (Le.nilapp (Le.nil _)))) hR ?_
  clear hS hR; rintro i aa ww hI hS hR; dsimp only [List.cons_append, List.nil_append] at hI hS hR
  refine wp_seq_k ?_; intro K527 hK527
  refine wp_region_lit ?_
  refine sA hS hR (Yld.lss hS rfl rfl) (by decide) ?_; clear hS; intro aa hS
  refine wpList_nil ?_
  refine hK527 _ _ ?_
  refine wp_seq_k ?_; intro K528 hK528
  refine hS.splitB (t := 23) rfl ?_ ?_ <;> clear hS
  · intro hg hS
    refine condT hS rfl ?_
    refine wp_skip ?_
    refine hK528 _ _ ?_
    refine wp_seq_k ?_; intro K529 hK529
    refine wp_block ?_
    refine wp_seq_k ?_; intro K530 hK530
    refine wp_region_lit ?_
    refine sA hS hR (Yld.move hS rfl) (by decide) ?_; clear hS; intro aa hS
    refine sA hS hR (Yld.assign hS rfl) (by decide) ?_; clear hS; intro aa hS
    refine wpList_nil ?_
    refine hK530 _ _ ?_
    refine wp_seq_k ?_; intro K531 hK531
    refine wp_region_lit ?_
    refine sA hS hR (Yld.move hS rfl) (by decide) ?_; clear hS; intro aa hS
    refine wpList_nil ?_
    refine hK531 _ _ ?_
    refine wp_block ?_
    refine loopI (X := Nat) [(1, _), (22, _), (23, _), (24, _)] (fun x => [(25, .int .i64 (x : Int))]) (fun x => []) _ (fun x => x ≤ 16) (fun x => 16 - x) 0 (Nat.zero_le _) (hS.le (Le.cons rfl (Le.nilapp (Le.cons rfl (Le.cons rfl (Le.cons rfl (Le.cons rfl (Le.nil _)))))))) hR ?_
    clear hS hR; rintro d aa ww hI hS hR; dsimp only [List.cons_append, List.nil_append] at hI hS hR
    refine wp_seq_k ?_; intro K533 hK533
    refine wp_region_lit ?_
    refine sA hS hR (Yld.lss hS rfl rfl) (by decide) ?_; clear hS; intro aa hS
    refine wpList_nil ?_
    refine hK533 _ _ ?_
    refine wp_seq_k ?_; intro K534 hK534
    refine hS.splitB (t := 26) rfl ?_ ?_ <;> clear hS
    · intro hg hS
      refine condT hS rfl ?_
      refine wp_skip ?_
      refine hK534 _ _ ?_
      refine wp_seq_k ?_; intro K535 hK535
      refine wp_block ?_
      refine wp_seq_k ?_; intro K536 hK536
      refine wp_region_lit ?_
      refine sA hS hR (Yld.move hS rfl) (by decide) ?_; clear hS; intro aa hS
      refine sA hS hR (Yld.assign hS rfl) (by decide) ?_; clear hS; intro aa hS
      refine wpList_nil ?_
      refine hK536 _ _ ?_
      refine wp_seq_k ?_; intro K537 hK537
      refine wp_region_lit ?_
      refine sB (Bcall hS rfl Try.call15 (Example_ok hR) (by decide) ?_); clear hS; intro aa ww vv hS hp
      clear hR
      obtain ⟨rfl, hR⟩ := hp
      refine sB (Balloc hS hR info34 (by rfl) (by rfl) (by decide) ?_); clear hS hR; intro aa ww bb3 hS hR
      refine sB (Bstore hS hR rfl rfl (by rfl) info34 (by rfl) pkQ (by rfl) (Nat.le_of_ble_eq_true rfl) ?_); clear hR; intro ww hR
      refine wpList_nil ?_
      refine hK537 _ _ ?_
      refine wp_seq_k ?_; intro K538 hK538
      refine wp_region_lit ?_
      refine sA hS hR (Yld.loadAgg hS rfl Try.underlying34 rfl info34 (by first | exact Rds.cons (Rd.blk pkQ (by rfl)) (Rds.cons (Rd.blk pkQ (by rfl)) (Rds.cons (Rd.blk pkQ (by rfl)) (Rds.cons (Rd.blk pkQ (by rfl)) (Rds.cons (Rd.blk pkQ (by rfl)) (Rds.nil))))) | exact Rds.rec pkQ (by intro _; rfl) (by omega) | exact Rds.flat1 pkQ (by intro _; rfl) (by omega)) (by rfl)) (by decide) ?_; clear hS; intro aa hS
      refine sB (Bcall hS rfl Try.call29 (Digits_ok (k := exK) hR wfEx) (by decide) ?_); clear hS; intro aa ww vv hS hp
      clear hR
      obtain ⟨rfl, hR⟩ := hp
      refine sB (Balloc hS hR info64 (by rfl) (by rfl) (by decide) ?_); clear hS hR; intro aa ww bb4 hS hR
      refine sB (Bstore hS hR rfl rfl (by rfl) info64 (by rfl) pkQ (by rfl) (by rw [dlE_len]; exact Nat.le_refl _) ?_); clear hR; intro ww hR
      replace hR := hR.layAll (by rw [dlE_len]; rfl)
      refine wpList_nil ?_
      refine hK538 _ _ ?_
      refine wp_seq_k ?_; intro K539 hK539
      refine drawn (by kernel_rfl) hR Ex.refl ?_; clear hR; intro ww hR hR0
      refine dA 0 rfl (by kernel_rfl) (by kernel_rfl) (by kernel_rfl) (fun _ _ _ h => h) hS hR0 (Yld.move hS rfl) (by decide) ?_; clear hS; intro aa hS
      refine dA 1 rfl (by kernel_rfl) (by kernel_rfl) (by kernel_rfl) (fun _ _ _ h => h) hS hR0 (Yld.convInt hS rfl rfl Try.underlying31) (by decide) ?_; clear hS; intro aa hS
      refine dA 2 rfl (by kernel_rfl) (by kernel_rfl) (by kernel_rfl) (fun _ _ _ h => h) hS hR0 (Yld.move hS rfl) (by decide) ?_; clear hS; intro aa hS
      refine dA 3 rfl (by kernel_rfl) (by kernel_rfl) (by kernel_rfl) (fun _ _ _ h => h) hS hR0 ((by first | exact Yld.rem64 hS rfl rfl (by omega) | exact Yld.rem hS rfl rfl (by omega))) (by decide) ?_; clear hS; intro aa hS
      refine dA 4 rfl (by kernel_rfl) (by kernel_rfl) (by kernel_rfl) (fun _ _ _ h => h) hS hR0 ((by first | exact Yld.mul64 hS rfl rfl (by omega) | exact Yld.mul hS rfl rfl)) (by decide) ?_; clear hS; intro aa hS
      refine dA 5 rfl (by kernel_rfl) (by kernel_rfl) (by kernel_rfl) (fun _ _ _ h => h) hS hR0 ((by first | exact Yld.sub64 hS rfl rfl (by omega) | exact Yld.sub hS rfl rfl)) (by decide) ?_; clear hS; intro aa hS
      refine dA 6 rfl (by kernel_rfl) (by kernel_rfl) (by kernel_rfl) (fun _ _ _ h => h) hS hR0 (Yld.shlN hS rfl rfl (by omega)) (by decide) ?_; clear hS; intro aa hS
      refine dA 7 rfl (by kernel_rfl) (by kernel_rfl) (by kernel_rfl) (fun _ _ _ h => h) hS hR0 (Yld.move hS rfl) (by decide) ?_; clear hS; intro aa hS
      refine dA 8 rfl (by kernel_rfl) (by kernel_rfl) (by kernel_rfl) (fun _ _ _ h => h) hS hR0 (Yld.to (u := .pointer (some ⟨bb4, i * 1, none⟩)) (Yld.indexArr hS rfl rfl Try.underlying64 info3 (by omega) (by omega)) (by have h1 : (Try.t3).size = 1 := rfl; rw [h1]; congr 3; omega)) (by decide) ?_; clear hS; intro aa hS
      refine dA 9 rfl (by kernel_rfl) (by kernel_rfl) (by kernel_rfl) (fun _ _ _ h => h) hS hR0 (Yld.load1 hS rfl Try.underlying3 rfl (Rd.blk pkQ (dlE_get' (by omega)))) (by decide) ?_; clear hS; intro aa hS
      have hdb := dig_bd exK i
      refine dA 10 rfl (by kernel_rfl) (by kernel_rfl) (by kernel_rfl) (fun _ _ _ h => h) hS hR0 (Yld.convInt hS rfl rfl Try.underlying31) (by decide) ?_; clear hS; intro aa hS
      refine dA 11 rfl (by kernel_rfl) (by kernel_rfl) (by kernel_rfl) (fun _ _ _ h => h) hS hR0 (Yld.move hS rfl) (by decide) ?_; clear hS; intro aa hS
      refine dA 12 rfl (by kernel_rfl) (by kernel_rfl) (by kernel_rfl) (fun _ _ _ h => h) hS hR0 ((by first | exact Yld.rem64 hS rfl rfl (by omega) | exact Yld.rem hS rfl rfl (by omega))) (by decide) ?_; clear hS; intro aa hS
      refine dA 13 rfl (by kernel_rfl) (by kernel_rfl) (by kernel_rfl) (fun _ _ _ h => h) hS hR0 ((by first | exact Yld.mul64 hS rfl rfl (by omega) | exact Yld.mul hS rfl rfl)) (by decide) ?_; clear hS; intro aa hS
      refine dA 14 rfl (by kernel_rfl) (by kernel_rfl) (by kernel_rfl) (fun _ _ _ h => h) hS hR0 ((by first | exact Yld.sub64 hS rfl rfl (by omega) | exact Yld.sub hS rfl rfl)) (by decide) ?_; clear hS; intro aa hS
      refine dA 15 rfl (by kernel_rfl) (by kernel_rfl) (by kernel_rfl) (fun _ _ _ h => h) hS hR0 (Yld.shlN hS rfl rfl (by omega)) (by decide) ?_; clear hS; intro aa hS
      refine dA 16 rfl (by kernel_rfl) (by kernel_rfl) (by kernel_rfl) (fun _ _ _ h => h) hS hR0 (Yld.xor2 hS rfl rfl) (by decide) ?_; clear hS; intro aa hS
      obtain ⟨x5, hx5, hS⟩ := hS.hide32
      refine dA 17 rfl (by kernel_rfl) (by kernel_rfl) (by kernel_rfl) (fun _ _ _ h => h) hS hR0 (Yld.assign hS rfl) (by decide) ?_; clear hS; intro aa hS
      refine wpAnyH_done (by kernel_rfl) ?_ _; clear hR0
      refine hK539 _ _ ?_
      refine wp_seq_k ?_; intro K540 hK540
      have tail540 : ∀ (k : Ky) (hk : WfK k) (aa : Act) (ww : World), Has 274 aa [(1, .int .i64 (i : Int)), (2, .int .i64 (d : Int)), (3, .pointer (some ⟨bb3, 0, none⟩)), (22, .int .i64 (i : Int)), (23, .bool true), (24, .int .i64 (i : Int)), (25, .int .i64 (d : Int))] → Sep (blk bb3 (eK k) 34 :: l) ww → K540 aa ww := by
        clear hS hR; intro k hk aa ww hS hR
        refine hK540 _ _ ?_
        refine wp_seq_k ?_; intro K541 hK541
        refine wp_region_lit ?_
        refine sB (Bcall hS rfl Try.call11 (TNew_ok (n := 2) hR (by omega)) (by decide) ?_); clear hS; intro aa ww vv hS hp
        clear hR
        obtain ⟨b, rfl, hR⟩ := hp
        refine sA hS hR (Yld.move hS rfl) (by decide) ?_; clear hS; intro aa hS
        refine sA hS hR (Yld.extract hS rfl rfl) (by decide) ?_; clear hS; intro aa hS
        refine sA hS hR (Yld.extract hS rfl rfl) (by decide) ?_; clear hS; intro aa hS
        refine sA hS hR (Yld.assign hS rfl) (by decide) ?_; clear hS; intro aa hS
        refine sA hS hR (Yld.assign hS rfl) (by decide) ?_; clear hS; intro aa hS
        refine wpList_nil ?_
        refine hK541 _ _ ?_
        refine wp_seq_k ?_; intro K542 hK542
        refine wp_seq_k ?_; intro K543 hK543
        refine wp_region_lit ?_
        refine sA hS hR (Yld.move hS rfl) (by decide) ?_; clear hS; intro aa hS
        refine sA hS hR (Yld.neq hS rfl rfl) (by decide) ?_; clear hS; intro aa hS
        replace hS := hS.sayB (t := 105) false rfl (by simp)
        refine sA hS hR (Yld.move hS rfl) (by decide) ?_; clear hS; intro aa hS
        refine sAg hS hR rfl rfl (Yld.move hS rfl) (by decide) ?_; clear hS; intro aa hS
        refine sAg hS hR rfl rfl (Yld.eqlNil hS rfl rfl Try.underlying26) (by decide) ?_; clear hS; intro aa hS
        replace hS := hS.sayB (t := 108) false rfl (by rfl)
        refine sA hS hR (Yld.pickF hS rfl rfl) (by decide) ?_; clear hS; intro aa hS
        refine wpList_nil ?_
        refine hK543 _ _ ?_
        refine condF hS rfl ?_
        refine wp_skip ?_
        refine hK542 _ _ ?_
        refine wp_seq_k ?_; intro K544 hK544
        refine wp_region_lit ?_
        refine sA hS hR (Yld.build hS rfl (bld58_0 _)) (by decide) ?_; clear hS; intro aa hS
        refine sB (Bbox hS hR rfl (by rfl) (by decide) ?_); clear hS hR; intro aa ww bb111 hS hR
        replace hR := (hR.slsNil (T := 3) (sz := 1)).slsNil (T := 34) (sz := 5)
        replace hR := hR.pk (r := blk bb111 _ _) pkQ
        replace hR := Sep.rtrI (TR := 58) (TK := 34) (TI := 3) (b := bb111) (K := []) (xs := []) (ys := []) (most := 2) (r1 := none) (r2 := none) (c1 := 0) (c2 := 0) (n1 := 0) (n2 := 0) (GK.nil (by omega) (by omega)) srt_nil.symm (by rw [vals, srt_nil]; rfl) rfl rfl hR
        refine sA hS hR (Yld.assign hS rfl) (by decide) ?_; clear hS; intro aa hS
        refine wpList_nil ?_
        refine hK544 _ _ ?_
        refine wp_seq_k ?_; intro K545 hK545
        refine wp_seq_k ?_; intro K546 hK546
        refine drawn (by kernel_rfl) hR Ex.refl ?_; clear hR; intro ww hR hR0
        refine dA 1 rfl (by kernel_rfl) (by kernel_rfl) (by kernel_rfl) (fun _ _ _ h => h) hS hR0 (Yld.move hS rfl) (by decide) ?_; clear hS; intro aa hS
        refine dA 3 rfl (by kernel_rfl) (by kernel_rfl) (by kernel_rfl) (fun _ _ _ h => h) hS hR0 (Yld.loadAgg hS rfl Try.underlying34 rfl info34 (by first | exact Rds.cons (Rd.blk pkQ (by rfl)) (Rds.cons (Rd.blk pkQ (by rfl)) (Rds.cons (Rd.blk pkQ (by rfl)) (Rds.cons (Rd.blk pkQ (by rfl)) (Rds.cons (Rd.blk pkQ (by rfl)) (Rds.nil))))) | exact Rds.rec pkQ (by intro _; rfl) (by omega) | exact Rds.flat1 pkQ (by intro _; rfl) (by omega)) (by rfl)) (by decide) ?_; clear hS; intro aa hS
        refine dA 4 rfl (by kernel_rfl) (by kernel_rfl) (by kernel_rfl) (fun _ _ _ h => h) hS hR0 (Yld.move hS rfl) (by decide) ?_; clear hS; intro aa hS
        refine dA 5 rfl (by kernel_rfl) (by kernel_rfl) (by kernel_rfl) (fun _ _ _ h => h) hS hR0 (Yld.build hS rfl (bld60_1_2 _ _ _ _ _ _)) (by decide) ?_; clear hS; intro aa hS
        refine dA 6 rfl (by kernel_rfl) (by kernel_rfl) (by kernel_rfl) (fun _ _ _ h => h) hS hR0 (Yld.loadAgg hS rfl Try.underlying34 rfl info34 (by first | exact Rds.cons (Rd.blk pkQ (by rfl)) (Rds.cons (Rd.blk pkQ (by rfl)) (Rds.cons (Rd.blk pkQ (by rfl)) (Rds.cons (Rd.blk pkQ (by rfl)) (Rds.cons (Rd.blk pkQ (by rfl)) (Rds.nil))))) | exact Rds.rec pkQ (by intro _; rfl) (by omega) | exact Rds.flat1 pkQ (by intro _; rfl) (by omega)) (by rfl)) (by decide) ?_; clear hS; intro aa hS
        refine dA 7 rfl (by kernel_rfl) (by kernel_rfl) (by kernel_rfl) (fun _ _ _ h => h) hS hR0 (Yld.move hS rfl) (by decide) ?_; clear hS; intro aa hS
        refine dA 8 rfl (by kernel_rfl) (by kernel_rfl) (by kernel_rfl) (fun _ _ _ h => h) hS hR0 (Yld.build hS rfl (bld60_0_1_2 _ _ _ _ _ _ _)) (by decide) ?_; clear hS; intro aa hS
        refine dA 9 rfl (by kernel_rfl) (by kernel_rfl) (by kernel_rfl) (fun _ _ _ h => h) hS hR0 (Yld.loadAgg hS rfl Try.underlying34 rfl info34 (by first | exact Rds.cons (Rd.blk pkQ (by rfl)) (Rds.cons (Rd.blk pkQ (by rfl)) (Rds.cons (Rd.blk pkQ (by rfl)) (Rds.cons (Rd.blk pkQ (by rfl)) (Rds.cons (Rd.blk pkQ (by rfl)) (Rds.nil))))) | exact Rds.rec pkQ (by intro _; rfl) (by omega) | exact Rds.flat1 pkQ (by intro _; rfl) (by omega)) (by rfl)) (by decide) ?_; clear hS; intro aa hS
        refine dA 10 rfl (by kernel_rfl) (by kernel_rfl) (by kernel_rfl) (fun _ _ _ h => h) hS hR0 (Yld.move hS rfl) (by decide) ?_; clear hS; intro aa hS
        refine dA 11 rfl (by kernel_rfl) (by kernel_rfl) (by kernel_rfl) (fun _ _ _ h => h) hS hR0 ((by first | exact Yld.add64 hS rfl rfl (by omega) | exact Yld.add hS rfl rfl)) (by decide) ?_; clear hS; intro aa hS
        refine dA 12 rfl (by kernel_rfl) (by kernel_rfl) (by kernel_rfl) (fun _ _ _ h => h) hS hR0 (Yld.build hS rfl (bld60_0_1_2 _ _ _ _ _ _ _)) (by decide) ?_; clear hS; intro aa hS
        refine dA 13 rfl (by kernel_rfl) (by kernel_rfl) (by kernel_rfl) (fun _ _ _ h => h) hS hR0 (Yld.build hS rfl (bld34_1 _)) (by decide) ?_; clear hS; intro aa hS
        refine dA 14 rfl (by kernel_rfl) (by kernel_rfl) (by kernel_rfl) (fun _ _ _ h => h) hS hR0 (Yld.build hS rfl (bld60_1 _ _ _ _ _)) (by decide) ?_; clear hS; intro aa hS
        refine dA 15 rfl (by kernel_rfl) (by kernel_rfl) (by kernel_rfl) (fun _ _ _ h => h) hS hR0 (Yld.loadAgg hS rfl Try.underlying34 rfl info34 (by first | exact Rds.cons (Rd.blk pkQ (by rfl)) (Rds.cons (Rd.blk pkQ (by rfl)) (Rds.cons (Rd.blk pkQ (by rfl)) (Rds.cons (Rd.blk pkQ (by rfl)) (Rds.cons (Rd.blk pkQ (by rfl)) (Rds.nil))))) | exact Rds.rec pkQ (by intro _; rfl) (by omega) | exact Rds.flat1 pkQ (by intro _; rfl) (by omega)) (by rfl)) (by decide) ?_; clear hS; intro aa hS
        refine dA 16 rfl (by kernel_rfl) (by kernel_rfl) (by kernel_rfl) (fun _ _ _ h => h) hS hR0 (Yld.build hS rfl (bld60_0_1 _ _ _ _ _ _)) (by decide) ?_; clear hS; intro aa hS
        refine dA 17 rfl (by kernel_rfl) (by kernel_rfl) (by kernel_rfl) (fun _ _ _ h => h) hS hR0 (Yld.loadAgg hS rfl Try.underlying34 rfl info34 (by first | exact Rds.cons (Rd.blk pkQ (by rfl)) (Rds.cons (Rd.blk pkQ (by rfl)) (Rds.cons (Rd.blk pkQ (by rfl)) (Rds.cons (Rd.blk pkQ (by rfl)) (Rds.cons (Rd.blk pkQ (by rfl)) (Rds.nil))))) | exact Rds.rec pkQ (by intro _; rfl) (by omega) | exact Rds.flat1 pkQ (by intro _; rfl) (by omega)) (by rfl)) (by decide) ?_; clear hS; intro aa hS
        refine dA 18 rfl (by kernel_rfl) (by kernel_rfl) (by kernel_rfl) (fun _ _ _ h => h) hS hR0 (Yld.build hS rfl (bld60_0_1 _ _ _ _ _ _)) (by decide) ?_; clear hS; intro aa hS
        refine dA 19 rfl (by kernel_rfl) (by kernel_rfl) (by kernel_rfl) (fun _ _ _ h => h) hS hR0 (Yld.loadAgg hS rfl Try.underlying34 rfl info34 (by first | exact Rds.cons (Rd.blk pkQ (by rfl)) (Rds.cons (Rd.blk pkQ (by rfl)) (Rds.cons (Rd.blk pkQ (by rfl)) (Rds.cons (Rd.blk pkQ (by rfl)) (Rds.cons (Rd.blk pkQ (by rfl)) (Rds.nil))))) | exact Rds.rec pkQ (by intro _; rfl) (by omega) | exact Rds.flat1 pkQ (by intro _; rfl) (by omega)) (by rfl)) (by decide) ?_; clear hS; intro aa hS
        refine dA 20 rfl (by kernel_rfl) (by kernel_rfl) (by kernel_rfl) (fun _ _ _ h => h) hS hR0 (Yld.build hS rfl (bld60_0_1 _ _ _ _ _ _)) (by decide) ?_; clear hS; intro aa hS
        refine dA 21 rfl (by kernel_rfl) (by kernel_rfl) (by kernel_rfl) (fun _ _ _ h => h) hS hR0 (Yld.build hS rfl (bld34_2 _)) (by decide) ?_; clear hS; intro aa hS
        refine dA 22 rfl (by kernel_rfl) (by kernel_rfl) (by kernel_rfl) (fun _ _ _ h => h) hS hR0 (Yld.build hS rfl (bld60_1 _ _ _ _ _)) (by decide) ?_; clear hS; intro aa hS
        refine dA 27 rfl (by kernel_rfl) (by kernel_rfl) (by kernel_rfl) (fun _ _ _ h => h) hS hR0 (Yld.move hS rfl) (by decide) ?_; clear hS; intro aa hS
        refine dOne (i := 0) (by kernel_rfl) ?_
        refine dop rfl (Bcall hS rfl Try.call15 (Example_ok hR) (by decide) ?_); clear hS; intro aa ww vv hS hp
        clear hR hR0
        obtain ⟨rfl, hR⟩ := hp
        refine dnext (hR.sub exQ) ?_; intro hR0
        refine dA 2 rfl (by kernel_rfl) (by kernel_rfl) (by kernel_rfl) (fun _ _ _ h => h) hS hR0 (Yld.build hS rfl (bld60_1_2 _ _ _ _ _ _)) (by decide) ?_; clear hS; intro aa hS
        refine dOne (i := 23) (by kernel_rfl) ?_
        refine dop rfl (Bcall hS rfl Try.call15 (Example_ok hR) (by decide) ?_); clear hS; intro aa ww vv hS hp
        clear hR hR0
        obtain ⟨rfl, hR⟩ := hp
        refine dnext (hR.sub exQ) ?_; intro hR0
        refine dA 24 rfl (by kernel_rfl) (by kernel_rfl) (by kernel_rfl) (fun _ _ _ h => h) hS hR0 (Yld.build hS rfl (bld60_0_1 _ _ _ _ _ _)) (by decide) ?_; clear hS; intro aa hS
        refine dOne (i := 25) (by kernel_rfl) ?_
        refine dop rfl (BbuildSlice hS hR rfl (bls53_10_0_1_2_3_4_5_6_7_8_9 _ _ _ _ _ _ _ _ _ _ _ _ _ _ _ _ _ _ _ _ _ _ _ _ _ _ _ _ _ _ _ _ _ _ _ _ _ _ _ _ _ _ _ _ _ _ _ _ _ _ _ _ _ _ _ _ _ _ _ _ _ _ _ _ _ _ _ _ _ _) (by decide) ?_); clear hS hR hR0; intro aa ww bb137 hS hR
        refine dnext (hR.sub exQ) ?_; intro hR0
        replace hR := hR.pk (r := blk bb137 _ _) pkQ
        replace hR := Sep.toRecs (m := 10) (sz := 7) (enc := eA7) [(0, exK, (i : Int)), (0, k, (d : Int)), (3, k, (i : Int)), (3, k, (i : Int) + 1), (0, (0, 1, 0, 0, 0), 0), (4, k, 0), (2, k, 0), (4, k, 0), (0, (0, 0, 1, 0, 0), 0), (2, exK, 0)] hR rfl (by intro _; rfl) rfl
        obtain ⟨acts, hal, hacts, hR⟩ : ∃ acts : List At, acts.length = 10 ∧ (∀ r ∈ acts, OkA r) ∧ Sep (sls (some ⟨bb137, 0, none⟩) 10 10 60 7 (acts.flatMap eA7) :: _) _ := ⟨_, rfl, by
          have w1 : WfK (0, 1, 0, 0, 0) := by constructor <;> decide
          have w2 : WfK (0, 0, 1, 0, 0) := by constructor <;> decide
          intro r hr
          simp only [List.mem_cons, List.not_mem_nil, or_false] at hr
          rcases hr with rfl | rfl | rfl | rfl | rfl | rfl | rfl | rfl | rfl | rfl <;> exact ⟨by dsimp only; omega, by first | exact wfEx | exact hk | exact w1 | exact w2⟩, hR⟩
        refine dA 26 rfl (by kernel_rfl) (by kernel_rfl) (by kernel_rfl) (fun _ _ _ h => h) hS hR0 (Yld.len hS rfl Try.underlying53) (by decide) ?_; clear hS; intro aa hS
        refine wpAnyH_done (by kernel_rfl) ?_ _; clear hR0
        refine hK546 _ _ ?_
        refine wp_block ?_
        replace hR := hR.pk (r := rtrA 58 34 3 bb111 [] 2) pkQ
        replace hR := hR.pk (r := trieA 69 79 3 b [] 2) pkQ
        refine loopI (X := Nat × List (Ky × Int)) [(1, _), (2, _), (3, _), (6, _), (7, _), (8, _), (22, _), (23, _), (24, _), (25, _), (100, _), (101, _), (102, _), (103, _), (104, _), (105, _), (106, _), (107, _), (108, _), (109, _), (110, _), (111, _), (112, _), (113, _), (114, _), (115, _), (116, _), (117, _), (118, _), (119, _), (120, _), (121, _), (122, _), (123, _), (124, _), (125, _), (126, _), (127, _), (128, _), (129, _), (130, _), (131, _), (132, _), (133, _), (134, _), (135, _), (136, _), (137, _), (138, _)] (fun x => [(139, .int .i64 (x.1 : Int))]) (fun x => [trieA 69 79 3 b x.2 2, rtrA 58 34 3 bb111 x.2 2]) _ (fun x => x.1 ≤ 10 ∧ GK x.2 2) (fun x => 10 - x.1) (0, []) ⟨Nat.zero_le _, GK.nil (by omega) (by omega)⟩ (hS.le (Le.cons rfl (Le.nilapp (Le.cons rfl (Le.cons rfl (Le.cons rfl (Le.cons rfl (Le.cons rfl (Le.cons rfl (Le.cons rfl (Le.cons rfl (Le.cons rfl (Le.cons rfl (Le.cons rfl (Le.cons rfl (Le.cons rfl (Le.cons rfl (Le.cons rfl (Le.cons rfl (Le.cons rfl (Le.cons rfl (Le.cons rfl (Le.cons rfl (Le.cons rfl (Le.cons rfl (Le.cons rfl (Le.cons rfl (Le.cons rfl (Le.cons rfl (Le.cons rfl (Le.cons rfl (Le.cons rfl (Le.cons rfl (Le.cons rfl (Le.cons rfl (Le.cons rfl (Le.cons rfl (Le.cons rfl (Le.cons rfl (Le.cons rfl (Le.cons rfl (Le.cons rfl (Le.cons rfl (Le.cons rfl (Le.cons rfl (Le.cons rfl (Le.cons rfl (Le.cons rfl (Le.cons rfl (Le.cons rfl (Le.cons rfl (Le.cons rfl (Le.nil _))))))))))))))))))))))))))))))))))))))))))))))))))))) hR ?_
        clear hS hR; rintro ⟨ka, K⟩ aa ww hI hS hR; dsimp only [List.cons_append, List.nil_append] at hI hS hR
        refine wp_seq_k ?_; intro K548 hK548
        refine wp_region_lit ?_
        refine sA hS hR (Yld.lss hS rfl rfl) (by decide) ?_; clear hS; intro aa hS
        refine wpList_nil ?_
        refine hK548 _ _ ?_
        refine wp_seq_k ?_; intro K549 hK549
        refine hS.splitB (t := 140) rfl ?_ ?_ <;> clear hS
        · intro hg hS
          obtain ⟨a0, a0e⟩ : ∃ y : At, acts[ka] = y := ⟨_, rfl⟩
          have hoa : OkA a0 := by rw [← a0e]; exact hacts _ (List.getElem_mem _)
          refine condT hS rfl ?_
          refine wp_skip ?_
          refine hK549 _ _ ?_
          refine wp_seq_k ?_; intro K550 hK550
          refine wp_block ?_
          refine wp_seq_k ?_; intro K551 hK551
          refine wp_region_lit ?_
          refine sA hS hR ((by first | exact Yld.indexL (sz := 7) (ka) hS rfl rfl Try.underlying53 info60 pkQ rfl (by first | rfl | omega) (by omega) | exact Yld.indexB (sz := 7) (ka) hS rfl rfl Try.underlying53 info60 rfl (by first | rfl | omega) (by omega))) (by decide) ?_; clear hS; intro aa hS
          refine sA hS hR (Yld.loadAgg (vs := eA7 a0) hS rfl Try.underlying60 rfl info60 (a0e ▸ Rds.rec (enc := eA7) (xs := acts) (k := ka) pkQ (by intro _; rfl) (by omega)) (by rfl)) (by decide) ?_; clear hS; intro aa hS
          refine sB (Balloc hS hR info60 (by rfl) (by rfl) (by decide) ?_); clear hS hR; intro aa ww bb10 hS hR
          refine sB (Bstore hS hR rfl rfl (by rfl) info60 (by rfl) pkQ (by rfl) (Nat.le_of_ble_eq_true rfl) ?_); clear hR; intro ww hR
          refine wpList_nil ?_
          refine hK551 _ _ ?_
          refine wp_seq_k ?_; intro K552 hK552
          refine wp_region_lit ?_
          refine sA hS hR (Yld.move hS rfl) (by decide) ?_; clear hS; intro aa hS
          refine sA hS hR (Yld.move hS rfl) (by decide) ?_; clear hS; intro aa hS
          refine sA hS hR (Yld.loadAgg hS rfl Try.underlying60 rfl info60 (by first | exact Rds.cons (Rd.blk pkQ (by rfl)) (Rds.cons (Rd.blk pkQ (by rfl)) (Rds.cons (Rd.blk pkQ (by rfl)) (Rds.cons (Rd.blk pkQ (by rfl)) (Rds.cons (Rd.blk pkQ (by rfl)) (Rds.cons (Rd.blk pkQ (by rfl)) (Rds.cons (Rd.blk pkQ (by rfl)) (Rds.nil))))))) | exact Rds.rec pkQ (by intro _; rfl) (by omega) | exact Rds.flat1 pkQ (by intro _; rfl) (by omega)) (by rfl)) (by decide) ?_; clear hS; intro aa hS
          refine sB (Bcall hS rfl Try.call26 (act15_ok (K := K) (k := a0.2.1) (kd := a0.1) (v := a0.2.2) ((hR.pk (r := rtrA _ _ _ bb111 _ _) pkQ).pk (r := trieA _ _ _ b _ _) pkQ) hoa.k hoa.kd) (by decide) ?_); clear hS; intro aa ww vv hS hp
          clear hR
          obtain ⟨rfl, hR⟩ := hp
          refine sA hS hR (Yld.not hS rfl) (by decide) ?_; clear hS; intro aa hS
          replace hS := hS.sayB (t := 147) false rfl (by rfl)
          refine sA hS hR (Yld.move hS rfl) (by decide) ?_; clear hS; intro aa hS
          refine sAg hS hR rfl rfl (Yld.move hS rfl) (by decide) ?_; clear hS; intro aa hS
          refine sAg hS hR rfl rfl (Yld.move hS rfl) (by decide) ?_; clear hS; intro aa hS
          refine sBg hS rfl rfl (Bcall hS rfl Try.call27 (same15_ok (K := actK K a0.1 a0.2.1 a0.2.2 2) ((hR.pk (r := rtrA _ _ _ bb111 _ _) pkQ).pk (r := trieA _ _ _ b _ _) pkQ)) (by decide) ?_); clear hS; intro aa ww vv hS hp
          clear hR
          obtain ⟨rfl, hR⟩ := hp
          refine sAg hS hR rfl rfl (Yld.not hS rfl) (by decide) ?_; clear hS; intro aa hS
          replace hS := hS.sayB (t := 152) false rfl (by rfl)
          refine sA hS hR (Yld.pickF hS rfl rfl) (by decide) ?_; clear hS; intro aa hS
          refine wpList_nil ?_
          refine hK552 _ _ ?_
          refine condF hS rfl ?_
          refine wp_skip ?_
          refine hK550 _ _ ?_
          refine wp_region_lit ?_
          refine sA hS hR ((by first | exact Yld.add64 hS rfl rfl (by omega) | exact Yld.add hS rfl rfl)) (by decide) ?_; clear hS; intro aa hS
          refine sA hS hR (Yld.move hS rfl) (by decide) ?_; clear hS; intro aa hS
          refine wpList_nil ?_
          
          refine ⟨(ka + 1, _), ?_, ?_, hS.le (Le.cons rfl (Le.nilapp (Le.cons rfl (Le.cons rfl (Le.cons rfl (Le.cons rfl (Le.cons rfl (Le.cons rfl (Le.cons rfl (Le.cons rfl (Le.cons rfl (Le.cons rfl (Le.cons rfl (Le.cons rfl (Le.cons rfl (Le.cons rfl (Le.cons rfl (Le.cons rfl (Le.cons rfl (Le.cons rfl (Le.cons rfl (Le.cons rfl (Le.cons rfl (Le.cons rfl (Le.cons rfl (Le.cons rfl (Le.cons rfl (Le.cons rfl (Le.cons rfl (Le.cons rfl (Le.cons rfl (Le.cons rfl (Le.cons rfl (Le.cons rfl (Le.cons rfl (Le.cons rfl (Le.cons rfl (Le.cons rfl (Le.cons rfl (Le.cons rfl (Le.cons rfl (Le.cons rfl (Le.cons rfl (Le.cons rfl (Le.cons rfl (Le.cons rfl (Le.cons rfl (Le.cons rfl (Le.cons rfl (Le.cons rfl (Le.cons rfl (Le.nil _)))))))))))))))))))))))))))))))))))))))))))))))))))), hR.sub (Ex.take pkQ (Ex.take pkQ (Ex.nilapp exQ)))⟩
          · dsimp only; exact ⟨by omega, hI.2.act hoa.k _⟩
          · dsimp only; omega
        · intro hg hS
          have hGK := hI.2
          refine condF hS rfl ?_
          refine wp_exit ?_
          refine hK545 _ _ ?_
          refine wp_seq_k ?_; intro K553 hK553
          refine wp_region_lit ?_
          refine sA hS hR (Yld.assign hS rfl) (by decide) ?_; clear hS; intro aa hS
          refine wpList_nil ?_
          refine hK553 _ _ ?_
          refine wp_block ?_
          refine loopI (X := Int) [(1, _), (2, _), (3, _), (6, _), (7, _), (8, _), (22, _), (23, _), (24, _), (25, _), (100, _), (101, _), (102, _), (103, _), (104, _), (105, _), (106, _), (107, _), (108, _), (109, _), (110, _), (111, _), (112, _), (113, _), (114, _), (115, _), (116, _), (117, _), (118, _), (119, _), (120, _), (121, _), (122, _), (123, _), (124, _), (125, _), (126, _), (127, _), (128, _), (129, _), (130, _), (131, _), (132, _), (133, _), (134, _), (135, _), (136, _), (137, _), (138, _), (139, _), (140, _)] (fun x => [(11, .int .i64 x)]) (fun x => []) _ (fun x => -1 ≤ x ∧ x ≤ 27) (fun x => (27 - x).toNat) (-1) (by omega) (hS.le (Le.cons rfl (Le.nilapp (Le.cons rfl (Le.cons rfl (Le.cons rfl (Le.cons rfl (Le.cons rfl (Le.cons rfl (Le.cons rfl (Le.cons rfl (Le.cons rfl (Le.cons rfl (Le.cons rfl (Le.cons rfl (Le.cons rfl (Le.cons rfl (Le.cons rfl (Le.cons rfl (Le.cons rfl (Le.cons rfl (Le.cons rfl (Le.cons rfl (Le.cons rfl (Le.cons rfl (Le.cons rfl (Le.cons rfl (Le.cons rfl (Le.cons rfl (Le.cons rfl (Le.cons rfl (Le.cons rfl (Le.cons rfl (Le.cons rfl (Le.cons rfl (Le.cons rfl (Le.cons rfl (Le.cons rfl (Le.cons rfl (Le.cons rfl (Le.cons rfl (Le.cons rfl (Le.cons rfl (Le.cons rfl (Le.cons rfl (Le.cons rfl (Le.cons rfl (Le.cons rfl (Le.cons rfl (Le.cons rfl (Le.cons rfl (Le.cons rfl (Le.cons rfl (Le.cons rfl (Le.nil _))))))))))))))))))))))))))))))))))))))))))))))))))))))) hR ?_
          clear hS hR; rintro j aa ww hI hS hR; dsimp only [List.cons_append, List.nil_append] at hI hS hR
          refine wp_seq_k ?_; intro K555 hK555
          refine wp_seq_k ?_; intro K556 hK556
          refine wp_region_lit ?_
          refine sA hS hR (Yld.move hS rfl) (by decide) ?_; clear hS; intro aa hS
          refine sA hS hR (Yld.leq hS rfl rfl) (by decide) ?_; clear hS; intro aa hS
          refine wpList_nil ?_
          refine hK556 _ _ ?_
          refine hS.splitB (t := 156) rfl ?_ ?_ <;> clear hS
          · intro hg hS
            have huc := und_cnt (k := k) (n := j) hGK.good
            change (((undK K k j).length : Nat) : Int) = _ at huc
            refine condT hS rfl ?_
            refine wp_skip ?_
            refine hK555 _ _ ?_
            refine wp_seq_k ?_; intro K557 hK557
            refine wp_block ?_
            refine wp_seq_k ?_; intro K558 hK558
            refine drawn (by kernel_rfl) hR Ex.refl ?_; clear hR; intro ww hR hR0
            refine dA 0 rfl (by kernel_rfl) (by kernel_rfl) (by kernel_rfl) (fun _ _ _ h => h) hS hR0 (Yld.loadAgg hS rfl Try.underlying34 rfl info34 (by first | exact Rds.cons (Rd.blk pkQ (by rfl)) (Rds.cons (Rd.blk pkQ (by rfl)) (Rds.cons (Rd.blk pkQ (by rfl)) (Rds.cons (Rd.blk pkQ (by rfl)) (Rds.cons (Rd.blk pkQ (by rfl)) (Rds.nil))))) | exact Rds.rec pkQ (by intro _; rfl) (by omega) | exact Rds.flat1 pkQ (by intro _; rfl) (by omega)) (by rfl)) (by decide) ?_; clear hS; intro aa hS
            refine dA 1 rfl (by kernel_rfl) (by kernel_rfl) (by kernel_rfl) (fun _ _ _ h => h) hS hR0 (Yld.move hS rfl) (by decide) ?_; clear hS; intro aa hS
            refine dA 4 rfl (by kernel_rfl) (by kernel_rfl) (by kernel_rfl) (fun _ _ _ h => h) hS hR0 (Yld.loadAgg hS rfl Try.underlying34 rfl info34 (by first | exact Rds.cons (Rd.blk pkQ (by rfl)) (Rds.cons (Rd.blk pkQ (by rfl)) (Rds.cons (Rd.blk pkQ (by rfl)) (Rds.cons (Rd.blk pkQ (by rfl)) (Rds.cons (Rd.blk pkQ (by rfl)) (Rds.nil))))) | exact Rds.rec pkQ (by intro _; rfl) (by omega) | exact Rds.flat1 pkQ (by intro _; rfl) (by omega)) (by rfl)) (by decide) ?_; clear hS; intro aa hS
            refine dA 5 rfl (by kernel_rfl) (by kernel_rfl) (by kernel_rfl) (fun _ _ _ h => h) hS hR0 (Yld.move hS rfl) (by decide) ?_; clear hS; intro aa hS
            refine dOne (i := 2) (by kernel_rfl) ?_
            refine dop rfl (Bcall hS rfl Try.call20 (Digit_ok (k := k) hR hk) (by decide) ?_); clear hS; intro aa ww vv hS hp
            clear hR hR0
            obtain ⟨rfl, hR⟩ := hp
            have hdb : 0 ≤ digI k j ∧ digI k j < 16 := by unfold digI; split; exact dig_bd _ _; omega
            refine dnext (hR.sub exQ) ?_; intro hR0
            refine dA 3 rfl (by kernel_rfl) (by kernel_rfl) (by kernel_rfl) (fun _ _ _ h => h) hS hR0 ((by first | exact Yld.to (Yld.convInt hS rfl rfl Try.underlying3) (congrArg (Value.int .i64) (IntWalk.i64_in _ (by omega))) | exact Yld.convInt hS rfl rfl Try.underlying3)) (by decide) ?_; clear hS; intro aa hS
            refine dOne (i := 6) (by kernel_rfl) ?_
            refine dop rfl (Bcall hS rfl Try.call28 (RDigit_ok (k := k) hR hk) (by decide) ?_); clear hS; intro aa ww vv hS hp
            clear hR hR0
            obtain ⟨rfl, hR⟩ := hp
            refine dnext (hR.sub exQ) ?_; intro hR0
            refine dA 7 rfl (by kernel_rfl) (by kernel_rfl) (by kernel_rfl) (fun _ _ _ h => h) hS hR0 (Yld.neq hS rfl rfl) (by decide) ?_; clear hS; intro aa hS
            replace hS := hS.sayB (t := 166) false rfl (by simp)
            refine dA 8 rfl (by kernel_rfl) (by kernel_rfl) (by kernel_rfl) (fun _ _ _ h => h) hS hR0 (Yld.move hS rfl) (by decide) ?_; clear hS; intro aa hS
            refine dAg 9 rfl (by kernel_rfl) (by kernel_rfl) (by kernel_rfl) (fun _ _ _ h => h) hS rfl rfl hR0 (Yld.move hS rfl) (by decide) ?_; clear hS; intro aa hS
            refine dAg 10 rfl (by kernel_rfl) (by kernel_rfl) (by kernel_rfl) (fun _ _ _ h => h) hS rfl rfl hR0 (Yld.loadAgg hS rfl Try.underlying34 rfl info34 (by first | exact Rds.cons (Rd.blk pkQ (by rfl)) (Rds.cons (Rd.blk pkQ (by rfl)) (Rds.cons (Rd.blk pkQ (by rfl)) (Rds.cons (Rd.blk pkQ (by rfl)) (Rds.cons (Rd.blk pkQ (by rfl)) (Rds.nil))))) | exact Rds.rec pkQ (by intro _; rfl) (by omega) | exact Rds.flat1 pkQ (by intro _; rfl) (by omega)) (by rfl)) (by decide) ?_; clear hS; intro aa hS
            refine dAg 11 rfl (by kernel_rfl) (by kernel_rfl) (by kernel_rfl) (fun _ _ _ h => h) hS rfl rfl hR0 (Yld.move hS rfl) (by decide) ?_; clear hS; intro aa hS
            refine dAg 13 rfl (by kernel_rfl) (by kernel_rfl) (by kernel_rfl) (fun _ _ _ h => h) hS rfl rfl hR0 (Yld.move hS rfl) (by decide) ?_; clear hS; intro aa hS
            refine dAg 14 rfl (by kernel_rfl) (by kernel_rfl) (by kernel_rfl) (fun _ _ _ h => h) hS rfl rfl hR0 (Yld.loadAgg hS rfl Try.underlying34 rfl info34 (by first | exact Rds.cons (Rd.blk pkQ (by rfl)) (Rds.cons (Rd.blk pkQ (by rfl)) (Rds.cons (Rd.blk pkQ (by rfl)) (Rds.cons (Rd.blk pkQ (by rfl)) (Rds.cons (Rd.blk pkQ (by rfl)) (Rds.nil))))) | exact Rds.rec pkQ (by intro _; rfl) (by omega) | exact Rds.flat1 pkQ (by intro _; rfl) (by omega)) (by rfl)) (by decide) ?_; clear hS; intro aa hS
            refine dAg 15 rfl (by kernel_rfl) (by kernel_rfl) (by kernel_rfl) (fun _ _ _ h => h) hS rfl rfl hR0 (Yld.move hS rfl) (by decide) ?_; clear hS; intro aa hS
            refine dOne (i := 12) (by kernel_rfl) ?_
            refine dopg rfl hS rfl rfl (Bcall hS rfl Try.call23 (TCount_ok (K := K) (k := k) (n := j) (hR.pk (r := trieA _ _ _ b _ _) pkQ) hk) (by decide) ?_); clear hS; intro aa ww vv hS hp
            clear hR hR0
            obtain ⟨rfl, hR⟩ := hp
            rw [← huc] at hS
            refine dnext (hR.sub exQ) ?_; intro hR0
            refine dOne (i := 16) (by kernel_rfl) ?_
            refine dopg rfl hS rfl rfl (Bcall hS rfl Try.call30 (RUnder_ok (K := K) (k := k) (n := j) (hR.pk (r := rtrA _ _ _ bb111 _ _) pkQ) hk) (by decide) ?_); clear hS; intro aa ww vv hS hp
            clear hR hR0
            obtain ⟨rb, cb, rfl, hR⟩ := hp
            refine dnext (hR.sub exQ) ?_; intro hR0
            refine dAg 17 rfl (by kernel_rfl) (by kernel_rfl) (by kernel_rfl) (fun _ _ _ h => h) hS rfl rfl hR0 (Yld.len hS rfl Try.underlying24) (by decide) ?_; clear hS; intro aa hS
            refine dAg 18 rfl (by kernel_rfl) (by kernel_rfl) (by kernel_rfl) (fun _ _ _ h => h) hS rfl rfl hR0 (Yld.neq hS rfl rfl) (by decide) ?_; clear hS; intro aa hS
            replace hS := hS.sayB (t := 177) false rfl (by simp)
            refine dA 19 rfl (by kernel_rfl) (by kernel_rfl) (by kernel_rfl) (fun _ _ _ h => h) hS hR0 (Yld.pickF hS rfl rfl) (by decide) ?_; clear hS; intro aa hS
            refine wpAnyH_done (by kernel_rfl) ?_ _; clear hR0
            refine hK558 _ _ ?_
            refine condF hS rfl ?_
            refine wp_skip ?_
            refine hK557 _ _ ?_
            refine wp_region_lit ?_
            refine sA hS hR (Yld.move hS rfl) (by decide) ?_; clear hS; intro aa hS
            refine sA hS hR ((by first | exact Yld.add64 hS rfl rfl (by omega) | exact Yld.add hS rfl rfl)) (by decide) ?_; clear hS; intro aa hS
            refine sA hS hR (Yld.assign hS rfl) (by decide) ?_; clear hS; intro aa hS
            refine wpList_nil ?_
            
            refine ⟨(j + 1), ?_, ?_, hS.le (Le.cons rfl (Le.nilapp (Le.cons rfl (Le.cons rfl (Le.cons rfl (Le.cons rfl (Le.cons rfl (Le.cons rfl (Le.cons rfl (Le.cons rfl (Le.cons rfl (Le.cons rfl (Le.cons rfl (Le.cons rfl (Le.cons rfl (Le.cons rfl (Le.cons rfl (Le.cons rfl (Le.cons rfl (Le.cons rfl (Le.cons rfl (Le.cons rfl (Le.cons rfl (Le.cons rfl (Le.cons rfl (Le.cons rfl (Le.cons rfl (Le.cons rfl (Le.cons rfl (Le.cons rfl (Le.cons rfl (Le.cons rfl (Le.cons rfl (Le.cons rfl (Le.cons rfl (Le.cons rfl (Le.cons rfl (Le.cons rfl (Le.cons rfl (Le.cons rfl (Le.cons rfl (Le.cons rfl (Le.cons rfl (Le.cons rfl (Le.cons rfl (Le.cons rfl (Le.cons rfl (Le.cons rfl (Le.cons rfl (Le.cons rfl (Le.cons rfl (Le.cons rfl (Le.cons rfl (Le.nil _)))))))))))))))))))))))))))))))))))))))))))))))))))))), hR.sub (Ex.nilapp exQ)⟩
            · omega
            · omega
          · intro hg hS
            refine condF hS rfl ?_
            refine wp_exit ?_
            refine hK535 _ _ ?_
            refine wp_region_lit ?_
            refine sA hS hR ((by first | exact Yld.add64 hS rfl rfl (by omega) | exact Yld.add hS rfl rfl)) (by decide) ?_; clear hS; intro aa hS
            refine sA hS hR (Yld.move hS rfl) (by decide) ?_; clear hS; intro aa hS
            refine wpList_nil ?_
            
            refine ⟨d + 1, ?_, ?_, hS.le (Le.cons rfl (Le.nilapp (Le.cons rfl (Le.cons rfl (Le.cons rfl (Le.cons rfl (Le.nil _))))))), hR.sub (Ex.nilapp exQ)⟩
            · omega
            · omega
      refine wp_block ?_
      refine wp_seq_k ?_; intro K559 hK559
      refine wp_region_lit ?_
      refine sA hS hR (Yld.move hS rfl) (by decide) ?_; clear hS; intro aa hS
      refine sA hS hR (Yld.lss hS rfl rfl) (by decide) ?_; clear hS; intro aa hS
      refine sA hS hR (Yld.assign hS rfl) (by decide) ?_; clear hS; intro aa hS
      refine wpList_nil ?_
      refine hK559 _ _ ?_
      refine hS.splitB (t := 58) rfl ?_ ?_ <;> clear hS
      · intro hg hS
        refine condT hS rfl ?_
        refine wp_region_lit ?_
        refine sA hS hR (Yld.fieldAddr hS rfl 1 Try.underlying34 rfl rfl info31 (by decide)) (by decide) ?_; clear hS; intro aa hS
        refine sA hS hR (Yld.load1 hS rfl Try.underlying31 rfl (by first | exact Rd.blk pkQ (by rfl) | exact Rd.rec pkQ (by intro _; rfl) (by omega) rfl | exact Rd.rec0 pkQ (by intro _; rfl) (by omega) rfl | exact Rd.flatJ pkQ (by intro _; rfl) (by omega) rfl | exact Rd.flat0 pkQ (by intro _; rfl) (by omega) rfl)) (by decide) ?_; clear hS; intro aa hS
        refine sA hS hR (Yld.move hS rfl) (by decide) ?_; clear hS; intro aa hS
        refine sA hS hR (Yld.xor2 hS rfl rfl) (by decide) ?_; clear hS; intro aa hS
        obtain ⟨z0, hz0, hS⟩ := hS.hide32
        refine sA hS hR (Yld.fieldAddr hS rfl 1 Try.underlying34 rfl rfl info31 (by decide)) (by decide) ?_; clear hS; intro aa hS
        refine sB (Bstore hS hR rfl rfl (by rfl) info31 (by rfl) pkQ (by rfl) (Nat.le_of_ble_eq_true rfl) ?_); clear hR; intro ww hR
        refine wpList_nil ?_
        try dsimp only [lay, List.set] at hR
        exact tail540 (exK.1, z0, exK.2.2.1, exK.2.2.2.1, exK.2.2.2.2) ⟨wfEx.p, hz0, wfEx.d, wfEx.a, wfEx.b⟩ _ _ (hS.le (Le.cons rfl (Le.cons rfl (Le.cons rfl (Le.cons rfl (Le.cons rfl (Le.cons rfl (Le.cons rfl (Le.nil _))))))))) (hR.sub exQ)
      · intro hg hS
        refine condF hS rfl ?_
        refine wp_seq_k ?_; intro K560 hK560
        refine wp_region_lit ?_
        refine sA hS hR (Yld.move hS rfl) (by decide) ?_; clear hS; intro aa hS
        refine sA hS hR (Yld.lss hS rfl rfl) (by decide) ?_; clear hS; intro aa hS
        refine sA hS hR (Yld.assign hS rfl) (by decide) ?_; clear hS; intro aa hS
        refine wpList_nil ?_
        refine hK560 _ _ ?_
        refine hS.splitB (t := 66) rfl ?_ ?_ <;> clear hS
        · intro hg hS
          refine condT hS rfl ?_
          refine wp_region_lit ?_
          refine sA hS hR (Yld.fieldAddr hS rfl 2 Try.underlying34 rfl rfl info31 (by decide)) (by decide) ?_; clear hS; intro aa hS
          refine sA hS hR (Yld.load1 hS rfl Try.underlying31 rfl (by first | exact Rd.blk pkQ (by rfl) | exact Rd.rec pkQ (by intro _; rfl) (by omega) rfl | exact Rd.rec0 pkQ (by intro _; rfl) (by omega) rfl | exact Rd.flatJ pkQ (by intro _; rfl) (by omega) rfl | exact Rd.flat0 pkQ (by intro _; rfl) (by omega) rfl)) (by decide) ?_; clear hS; intro aa hS
          refine sA hS hR (Yld.move hS rfl) (by decide) ?_; clear hS; intro aa hS
          refine sA hS hR (Yld.xor2 hS rfl rfl) (by decide) ?_; clear hS; intro aa hS
          obtain ⟨z0, hz0, hS⟩ := hS.hide32
          refine sA hS hR (Yld.fieldAddr hS rfl 2 Try.underlying34 rfl rfl info31 (by decide)) (by decide) ?_; clear hS; intro aa hS
          refine sB (Bstore hS hR rfl rfl (by rfl) info31 (by rfl) pkQ (by rfl) (Nat.le_of_ble_eq_true rfl) ?_); clear hR; intro ww hR
          refine wpList_nil ?_
          try dsimp only [lay, List.set] at hR
          exact tail540 (exK.1, exK.2.1, z0, exK.2.2.2.1, exK.2.2.2.2) ⟨wfEx.p, wfEx.s, hz0, wfEx.a, wfEx.b⟩ _ _ (hS.le (Le.cons rfl (Le.cons rfl (Le.cons rfl (Le.cons rfl (Le.cons rfl (Le.cons rfl (Le.cons rfl (Le.nil _))))))))) (hR.sub exQ)
        · intro hg hS
          refine condF hS rfl ?_
          refine wp_seq_k ?_; intro K561 hK561
          refine wp_region_lit ?_
          refine sA hS hR (Yld.move hS rfl) (by decide) ?_; clear hS; intro aa hS
          refine sA hS hR (Yld.lss hS rfl rfl) (by decide) ?_; clear hS; intro aa hS
          refine sA hS hR (Yld.assign hS rfl) (by decide) ?_; clear hS; intro aa hS
          refine wpList_nil ?_
          refine hK561 _ _ ?_
          refine hS.splitB (t := 74) rfl ?_ ?_ <;> clear hS
          · intro hg hS
            refine condT hS rfl ?_
            refine drawn (by kernel_rfl) hR (Ex.of_pk (r := blk bb3 _ _) pkQ) ?_; clear hR; intro ww hR hR0
            refine dA 0 rfl (by kernel_rfl) (by kernel_rfl) (by kernel_rfl) (fun _ _ _ h => h) hS hR0 (Yld.fieldAddr hS rfl 0 Try.underlying34 rfl rfl info5 (by decide)) (by decide) ?_; clear hS; intro aa hS
            refine dA 2 rfl (by kernel_rfl) (by kernel_rfl) (by kernel_rfl) (fun _ _ _ h => h) hS hR0 (Yld.move hS rfl) (by decide) ?_; clear hS; intro aa hS
            refine dA 3 rfl (by kernel_rfl) (by kernel_rfl) (by kernel_rfl) (fun _ _ _ h => h) hS hR0 (Yld.convInt hS rfl rfl Try.underlying5) (by decide) ?_; clear hS; intro aa hS
            refine dA 4 rfl (by kernel_rfl) (by kernel_rfl) (by kernel_rfl) (fun _ _ _ h => h) hS hR0 (Yld.move hS rfl) (by decide) ?_; clear hS; intro aa hS
            refine dA 5 rfl (by kernel_rfl) (by kernel_rfl) (by kernel_rfl) (fun _ _ _ h => h) hS hR0 ((by first | exact Yld.sub64 hS rfl rfl (by omega) | exact Yld.sub hS rfl rfl)) (by decide) ?_; clear hS; intro aa hS
            refine dA 6 rfl (by kernel_rfl) (by kernel_rfl) (by kernel_rfl) (fun _ _ _ h => h) hS hR0 ((by first | exact Yld.mul64 hS rfl rfl (by omega) | exact Yld.mul hS rfl rfl)) (by decide) ?_; clear hS; intro aa hS
            refine dA 7 rfl (by kernel_rfl) (by kernel_rfl) (by kernel_rfl) (fun _ _ _ h => h) hS hR0 (Yld.shlN hS rfl rfl (by omega)) (by decide) ?_; clear hS; intro aa hS
            refine dOne (i := 1) (by kernel_rfl) ?_
            refine dop rfl (BA hS hR (Yld.load1 hS rfl Try.underlying5 rfl (by first | exact Rd.blk pkQ (by rfl) | exact Rd.rec pkQ (by intro _; rfl) (by omega) rfl | exact Rd.rec0 pkQ (by intro _; rfl) (by omega) rfl | exact Rd.flatJ pkQ (by intro _; rfl) (by omega) rfl | exact Rd.flat0 pkQ (by intro _; rfl) (by omega) rfl)) (by decide) ?_); clear hS; intro aa hS; refine ⟨hR0, ?_⟩
            refine dA 8 rfl (by kernel_rfl) (by kernel_rfl) (by kernel_rfl) (fun _ _ _ h => h) hS hR0 (Yld.xor2 hS rfl rfl) (by decide) ?_; clear hS; intro aa hS
            obtain ⟨z0, hz0, hS⟩ := hS.hide8
            refine dA 9 rfl (by kernel_rfl) (by kernel_rfl) (by kernel_rfl) (fun _ _ _ h => h) hS hR0 (Yld.fieldAddr hS rfl 0 Try.underlying34 rfl rfl info5 (by decide)) (by decide) ?_; clear hS; intro aa hS
            refine dOne (i := 10) (by kernel_rfl) ?_
            refine dop rfl (Bstore hS hR rfl rfl (by rfl) info5 (by rfl) pkQ (by rfl) (Nat.le_of_ble_eq_true rfl) ?_); clear hR hR0; intro ww hR
            refine dnext (hR.sub exQ) ?_; intro hR0
            refine wpAnyH_done (by kernel_rfl) ?_ _; clear hR0
            try dsimp only [lay, List.set] at hR
            exact tail540 (z0, exK.2.1, exK.2.2.1, exK.2.2.2.1, exK.2.2.2.2) ⟨hz0, wfEx.s, wfEx.d, wfEx.a, wfEx.b⟩ _ _ (hS.le (Le.cons rfl (Le.cons rfl (Le.cons rfl (Le.cons rfl (Le.cons rfl (Le.cons rfl (Le.cons rfl (Le.nil _))))))))) (hR.sub exQ)
          · intro hg hS
            refine condF hS rfl ?_
            refine wp_seq_k ?_; intro K562 hK562
            refine wp_region_lit ?_
            refine sA hS hR (Yld.move hS rfl) (by decide) ?_; clear hS; intro aa hS
            refine sA hS hR (Yld.lss hS rfl rfl) (by decide) ?_; clear hS; intro aa hS
            refine sA hS hR (Yld.assign hS rfl) (by decide) ?_; clear hS; intro aa hS
            refine wpList_nil ?_
            refine hK562 _ _ ?_
            refine hS.splitB (t := 87) rfl ?_ ?_ <;> clear hS
            · intro hg hS
              refine condT hS rfl ?_
              refine drawn (by kernel_rfl) hR (Ex.of_pk (r := blk bb3 _ _) pkQ) ?_; clear hR; intro ww hR hR0
              refine dA 0 rfl (by kernel_rfl) (by kernel_rfl) (by kernel_rfl) (fun _ _ _ h => h) hS hR0 (Yld.fieldAddr hS rfl 3 Try.underlying34 rfl rfl info32 (by decide)) (by decide) ?_; clear hS; intro aa hS
              refine dA 2 rfl (by kernel_rfl) (by kernel_rfl) (by kernel_rfl) (fun _ _ _ h => h) hS hR0 (Yld.move hS rfl) (by decide) ?_; clear hS; intro aa hS
              refine dA 3 rfl (by kernel_rfl) (by kernel_rfl) (by kernel_rfl) (fun _ _ _ h => h) hS hR0 (Yld.convInt hS rfl rfl Try.underlying32) (by decide) ?_; clear hS; intro aa hS
              refine dA 4 rfl (by kernel_rfl) (by kernel_rfl) (by kernel_rfl) (fun _ _ _ h => h) hS hR0 (Yld.move hS rfl) (by decide) ?_; clear hS; intro aa hS
              refine dA 5 rfl (by kernel_rfl) (by kernel_rfl) (by kernel_rfl) (fun _ _ _ h => h) hS hR0 ((by first | exact Yld.sub64 hS rfl rfl (by omega) | exact Yld.sub hS rfl rfl)) (by decide) ?_; clear hS; intro aa hS
              refine dA 6 rfl (by kernel_rfl) (by kernel_rfl) (by kernel_rfl) (fun _ _ _ h => h) hS hR0 ((by first | exact Yld.mul64 hS rfl rfl (by omega) | exact Yld.mul hS rfl rfl)) (by decide) ?_; clear hS; intro aa hS
              refine dA 7 rfl (by kernel_rfl) (by kernel_rfl) (by kernel_rfl) (fun _ _ _ h => h) hS hR0 (Yld.shlN hS rfl rfl (by omega)) (by decide) ?_; clear hS; intro aa hS
              refine dOne (i := 1) (by kernel_rfl) ?_
              refine dop rfl (BA hS hR (Yld.load1 hS rfl Try.underlying32 rfl (by first | exact Rd.blk pkQ (by rfl) | exact Rd.rec pkQ (by intro _; rfl) (by omega) rfl | exact Rd.rec0 pkQ (by intro _; rfl) (by omega) rfl | exact Rd.flatJ pkQ (by intro _; rfl) (by omega) rfl | exact Rd.flat0 pkQ (by intro _; rfl) (by omega) rfl)) (by decide) ?_); clear hS; intro aa hS; refine ⟨hR0, ?_⟩
              refine dA 8 rfl (by kernel_rfl) (by kernel_rfl) (by kernel_rfl) (fun _ _ _ h => h) hS hR0 (Yld.xor2 hS rfl rfl) (by decide) ?_; clear hS; intro aa hS
              obtain ⟨z0, hz0, hS⟩ := hS.hide16
              refine dA 9 rfl (by kernel_rfl) (by kernel_rfl) (by kernel_rfl) (fun _ _ _ h => h) hS hR0 (Yld.fieldAddr hS rfl 3 Try.underlying34 rfl rfl info32 (by decide)) (by decide) ?_; clear hS; intro aa hS
              refine dOne (i := 10) (by kernel_rfl) ?_
              refine dop rfl (Bstore hS hR rfl rfl (by rfl) info32 (by rfl) pkQ (by rfl) (Nat.le_of_ble_eq_true rfl) ?_); clear hR hR0; intro ww hR
              refine dnext (hR.sub exQ) ?_; intro hR0
              refine wpAnyH_done (by kernel_rfl) ?_ _; clear hR0
              try dsimp only [lay, List.set] at hR
              exact tail540 (exK.1, exK.2.1, exK.2.2.1, z0, exK.2.2.2.2) ⟨wfEx.p, wfEx.s, wfEx.d, hz0, wfEx.b⟩ _ _ (hS.le (Le.cons rfl (Le.cons rfl (Le.cons rfl (Le.cons rfl (Le.cons rfl (Le.cons rfl (Le.cons rfl (Le.nil _))))))))) (hR.sub exQ)
            · intro hg hS
              refine condF hS rfl ?_
              refine drawn (by kernel_rfl) hR (Ex.of_pk (r := blk bb3 _ _) pkQ) ?_; clear hR; intro ww hR hR0
              refine dA 0 rfl (by kernel_rfl) (by kernel_rfl) (by kernel_rfl) (fun _ _ _ h => h) hS hR0 (Yld.fieldAddr hS rfl 4 Try.underlying34 rfl rfl info32 (by decide)) (by decide) ?_; clear hS; intro aa hS
              refine dA 2 rfl (by kernel_rfl) (by kernel_rfl) (by kernel_rfl) (fun _ _ _ h => h) hS hR0 (Yld.move hS rfl) (by decide) ?_; clear hS; intro aa hS
              refine dA 3 rfl (by kernel_rfl) (by kernel_rfl) (by kernel_rfl) (fun _ _ _ h => h) hS hR0 (Yld.convInt hS rfl rfl Try.underlying32) (by decide) ?_; clear hS; intro aa hS
              refine dA 4 rfl (by kernel_rfl) (by kernel_rfl) (by kernel_rfl) (fun _ _ _ h => h) hS hR0 (Yld.move hS rfl) (by decide) ?_; clear hS; intro aa hS
              refine dA 5 rfl (by kernel_rfl) (by kernel_rfl) (by kernel_rfl) (fun _ _ _ h => h) hS hR0 ((by first | exact Yld.sub64 hS rfl rfl (by omega) | exact Yld.sub hS rfl rfl)) (by decide) ?_; clear hS; intro aa hS
              refine dA 6 rfl (by kernel_rfl) (by kernel_rfl) (by kernel_rfl) (fun _ _ _ h => h) hS hR0 ((by first | exact Yld.mul64 hS rfl rfl (by omega) | exact Yld.mul hS rfl rfl)) (by decide) ?_; clear hS; intro aa hS
              refine dA 7 rfl (by kernel_rfl) (by kernel_rfl) (by kernel_rfl) (fun _ _ _ h => h) hS hR0 (Yld.shlN hS rfl rfl (by omega)) (by decide) ?_; clear hS; intro aa hS
              refine dOne (i := 1) (by kernel_rfl) ?_
              refine dop rfl (BA hS hR (Yld.load1 hS rfl Try.underlying32 rfl (by first | exact Rd.blk pkQ (by rfl) | exact Rd.rec pkQ (by intro _; rfl) (by omega) rfl | exact Rd.rec0 pkQ (by intro _; rfl) (by omega) rfl | exact Rd.flatJ pkQ (by intro _; rfl) (by omega) rfl | exact Rd.flat0 pkQ (by intro _; rfl) (by omega) rfl)) (by decide) ?_); clear hS; intro aa hS; refine ⟨hR0, ?_⟩
              refine dA 8 rfl (by kernel_rfl) (by kernel_rfl) (by kernel_rfl) (fun _ _ _ h => h) hS hR0 (Yld.xor2 hS rfl rfl) (by decide) ?_; clear hS; intro aa hS
              obtain ⟨z0, hz0, hS⟩ := hS.hide16
              refine dA 9 rfl (by kernel_rfl) (by kernel_rfl) (by kernel_rfl) (fun _ _ _ h => h) hS hR0 (Yld.fieldAddr hS rfl 4 Try.underlying34 rfl rfl info32 (by decide)) (by decide) ?_; clear hS; intro aa hS
              refine dOne (i := 10) (by kernel_rfl) ?_
              refine dop rfl (Bstore hS hR rfl rfl (by rfl) info32 (by rfl) pkQ (by rfl) (Nat.le_of_ble_eq_true rfl) ?_); clear hR hR0; intro ww hR
              refine dnext (hR.sub exQ) ?_; intro hR0
              refine wpAnyH_done (by kernel_rfl) ?_ _; clear hR0
              try dsimp only [lay, List.set] at hR
              exact tail540 (exK.1, exK.2.1, exK.2.2.1, exK.2.2.2.1, z0) ⟨wfEx.p, wfEx.s, wfEx.d, wfEx.a, hz0⟩ _ _ (hS.le (Le.cons rfl (Le.cons rfl (Le.cons rfl (Le.cons rfl (Le.cons rfl (Le.cons rfl (Le.cons rfl (Le.nil _))))))))) (hR.sub exQ)
    · intro hg hS
      refine condF hS rfl ?_
      refine wp_exit ?_
      refine hK529 _ _ ?_
      refine wp_region_lit ?_
      refine sA hS hR ((by first | exact Yld.add64 hS rfl rfl (by omega) | exact Yld.add hS rfl rfl)) (by decide) ?_; clear hS; intro aa hS
      refine sA hS hR (Yld.move hS rfl) (by decide) ?_; clear hS; intro aa hS
      refine wpList_nil ?_
      
      refine ⟨i + 1, ?_, ?_, hS.le (Le.cons rfl (Le.nilapp (Le.nil _))), hR.sub (Ex.nilapp exQ)⟩
      · omega
      · omega
  · intro hg hS
    refine condF hS rfl ?_
    refine wp_exit ?_
    refine hK524 _ _ ?_
    refine wp_seq_k ?_; intro K563 hK563
    refine wp_seq_k ?_; intro K564 hK564
    refine wp_region_lit ?_
    refine sB (BbuildSlice hS hR rfl (bls56_6_0_1_2_3_4_5 _ _ _ _ _ _) (by decide) ?_); clear hS hR; intro aa ww bb181 hS hR
    replace hR := hR.pk (r := blk bb181 _ _) pkQ
    replace hR := Sep.toRecs (m := 6) (sz := 1) (enc := e1) [-1, 0, 1, 8192, 8193, 4611686018427387904] hR rfl (by intro _; rfl) rfl
    obtain ⟨nums, hnl, hR⟩ : ∃ nums : List Int, nums.length = 6 ∧ Sep (sls (some ⟨bb181, 0, none⟩) 6 6 3 1 (nums.flatMap e1) :: _) _ := ⟨_, rfl, hR⟩
    refine sA hS hR (Yld.len hS rfl Try.underlying56) (by decide) ?_; clear hS; intro aa hS
    refine sA hS hR (Yld.move hS rfl) (by decide) ?_; clear hS; intro aa hS
    refine wpList_nil ?_
    refine hK564 _ _ ?_
    refine wp_block ?_
    refine loopI (X := Nat) [(181, _), (182, _)] (fun x => [(183, .int .i64 (x : Int))]) (fun x => []) _ (fun x => x ≤ 6) (fun x => 6 - x) 0 (Nat.zero_le _) (hS.le (Le.cons rfl (Le.nilapp (Le.cons rfl (Le.cons rfl (Le.nil _)))))) hR ?_
    clear hS hR; rintro ia aa ww hI hS hR; dsimp only [List.cons_append, List.nil_append] at hI hS hR
    refine wp_seq_k ?_; intro K566 hK566
    refine wp_region_lit ?_
    refine sA hS hR (Yld.lss hS rfl rfl) (by decide) ?_; clear hS; intro aa hS
    refine wpList_nil ?_
    refine hK566 _ _ ?_
    refine wp_seq_k ?_; intro K567 hK567
    refine hS.splitB (t := 184) rfl ?_ ?_ <;> clear hS
    · intro hg hS
      obtain ⟨m, hm⟩ : ∃ y : Int, nums[ia] = y := ⟨_, rfl⟩
      refine condT hS rfl ?_
      refine wp_skip ?_
      refine hK567 _ _ ?_
      refine wp_seq_k ?_; intro K568 hK568
      refine wp_block ?_
      refine wp_seq_k ?_; intro K569 hK569
      refine wp_region_lit ?_
      refine sA hS hR ((by first | exact Yld.indexL (sz := 1) (ia) hS rfl rfl Try.underlying56 info3 pkQ rfl (by first | rfl | omega) (by omega) | exact Yld.indexB (sz := 1) (ia) hS rfl rfl Try.underlying56 info3 rfl (by first | rfl | omega) (by omega))) (by decide) ?_; clear hS; intro aa hS
      refine sA hS hR (Yld.load1 hS rfl Try.underlying3 rfl (Rd.rec0 (k := ia) (xs := nums) (v := .int .i64 m) pkQ (by intro _; rfl) (by omega) (by rw [hm]; rfl))) (by decide) ?_; clear hS; intro aa hS
      refine sA hS hR (Yld.assign hS rfl) (by decide) ?_; clear hS; intro aa hS
      refine wpList_nil ?_
      refine hK569 _ _ ?_
      refine wp_seq_k ?_; intro K570 hK570
      refine wp_region_lit ?_
      by_cases hn : 1 ≤ m ∧ m ≤ 8192
      ·
        refine sA hS hR (Yld.move hS rfl) (by decide) ?_; clear hS; intro aa hS
        refine sB (Bcall hS rfl Try.call11 (TNew_ok (n := m) hR hn) (by decide) ?_); clear hS; intro aa ww vv hS hp
        clear hR
        obtain ⟨b, rfl, hR⟩ := hp
        refine sA hS hR (Yld.move hS rfl) (by decide) ?_; clear hS; intro aa hS
        refine sA hS hR (Yld.extract hS rfl rfl) (by decide) ?_; clear hS; intro aa hS
        refine sA hS hR (Yld.extract hS rfl rfl) (by decide) ?_; clear hS; intro aa hS
        refine sA hS hR (Yld.assign hS rfl) (by decide) ?_; clear hS; intro aa hS
        refine sA hS hR (Yld.assign hS rfl) (by decide) ?_; clear hS; intro aa hS
        refine wpList_nil ?_
        refine hK570 _ _ ?_
        refine wp_seq_k ?_; intro K571 hK571
        refine wp_region_lit ?_
        refine sA hS hR (Yld.move hS rfl) (by decide) ?_; clear hS; intro aa hS
        refine sA hS hR (Yld.eql hS rfl rfl) (by decide) ?_; clear hS; intro aa hS
        replace hS := hS.sayB (t := 193) true rfl (by simp)
        refine sA hS hR (Yld.move hS rfl) (by decide) ?_; clear hS; intro aa hS
        refine sB (Bcall hS rfl Try.call25 (RRight_ok hR) (by decide) ?_); clear hS; intro aa ww vv hS hp
        clear hR
        obtain ⟨rfl, hR⟩ := hp
        refine sA hS hR (Yld.neqB hS rfl rfl Try.underlying4) (by decide) ?_; clear hS; intro aa hS
        replace hS := hS.sayB (t := 196) false rfl (by rw [decide_eq_true hn]; rfl)
        refine sA hS hR (Yld.move hS rfl) (by decide) ?_; clear hS; intro aa hS
        refine sAg hS hR rfl rfl (Yld.move hS rfl) (by decide) ?_; clear hS; intro aa hS
        refine sAg hS hR rfl rfl (Yld.eql hS rfl rfl) (by decide) ?_; clear hS; intro aa hS
        replace hS := hS.sayB (t := 199) true rfl (by simp)
        refine sAg hS hR rfl rfl (Yld.move hS rfl) (by decide) ?_; clear hS; intro aa hS
        refine sAg hS hR rfl rfl (Yld.move hS rfl) (by decide) ?_; clear hS; intro aa hS
        refine sAg hS hR rfl rfl (Yld.eqlNil hS rfl rfl Try.underlying26) (by decide) ?_; clear hS; intro aa hS
        replace hS := hS.sayB (t := 202) false rfl (by rfl)
        refine sAg hS hR rfl rfl (Yld.move hS rfl) (by decide) ?_; clear hS; intro aa hS
        refine sAg hS hR rfl rfl (Yld.move hS rfl) (by decide) ?_; clear hS; intro aa hS
        refine sBg hS rfl rfl (Bcall hS rfl Try.call19 (Nodes_okA (hR.pk (r := trieA _ _ _ b _ _) pkQ)) (by decide) ?_); clear hS; intro aa ww vv hS hp
        clear hR
        obtain ⟨rfl, hR⟩ := hp
        rw [nodes_nil] at hS
        refine sAg hS hR rfl rfl (Yld.neq hS rfl rfl) (by decide) ?_; clear hS; intro aa hS
        replace hS := hS.sayB (t := 206) false rfl (by simp)
        refine sAg hS hR rfl rfl (Yld.pickF hS rfl rfl) (by decide) ?_; clear hS; intro aa hS
        refine sAg hS hR rfl rfl (Yld.move hS rfl) (by decide) ?_; clear hS; intro aa hS
        refine sAg hS hR rfl rfl (Yld.move hS rfl) (by decide) ?_; clear hS; intro aa hS
        refine sBg hS rfl rfl (Bcall hS rfl Try.call14 (TLen_ok (hR.pk (r := trieA _ _ _ b _ _) pkQ)) (by decide) ?_); clear hS; intro aa ww vv hS hp
        clear hR
        obtain ⟨rfl, hR⟩ := hp
        refine sAg hS hR rfl rfl (Yld.neq hS rfl rfl) (by decide) ?_; clear hS; intro aa hS
        replace hS := hS.sayB (t := 211) false rfl (by simp)
        refine sAg hS hR rfl rfl (Yld.pickF hS rfl rfl) (by decide) ?_; clear hS; intro aa hS
        refine sAg hS hR rfl rfl (Yld.pickT hS rfl rfl) (by decide) ?_; clear hS; intro aa hS
        refine sA hS hR (Yld.pickF hS rfl rfl) (by decide) ?_; clear hS; intro aa hS
        refine wpList_nil ?_
        refine hK571 _ _ ?_
        refine condF hS rfl ?_
        refine wp_skip ?_
        refine hK568 _ _ ?_
        refine wp_region_lit ?_
        refine sA hS hR ((by first | exact Yld.add64 hS rfl rfl (by omega) | exact Yld.add hS rfl rfl)) (by decide) ?_; clear hS; intro aa hS
        refine sA hS hR (Yld.move hS rfl) (by decide) ?_; clear hS; intro aa hS
        refine wpList_nil ?_
        
        refine ⟨ia + 1, ?_, ?_, hS.le (Le.cons rfl (Le.nilapp (Le.cons rfl (Le.cons rfl (Le.nil _))))), hR.sub (Ex.nilapp exQ)⟩
        · omega
        · omega
      ·
        refine sA hS hR (Yld.move hS rfl) (by decide) ?_; clear hS; intro aa hS
        refine sB (Bcall hS rfl Try.call11 (TNew_bad (n := m) hR (by omega)) (by decide) ?_); clear hS; intro aa ww vv hS hp
        clear hR
        obtain ⟨rfl, hR⟩ := hp
        refine sA hS hR (Yld.move hS rfl) (by decide) ?_; clear hS; intro aa hS
        refine sA hS hR (Yld.extract hS rfl rfl) (by decide) ?_; clear hS; intro aa hS
        refine sA hS hR (Yld.extract hS rfl rfl) (by decide) ?_; clear hS; intro aa hS
        refine sA hS hR (Yld.assign hS rfl) (by decide) ?_; clear hS; intro aa hS
        refine sA hS hR (Yld.assign hS rfl) (by decide) ?_; clear hS; intro aa hS
        refine wpList_nil ?_
        refine hK570 _ _ ?_
        refine wp_seq_k ?_; intro K572 hK572
        refine wp_region_lit ?_
        refine sA hS hR (Yld.move hS rfl) (by decide) ?_; clear hS; intro aa hS
        refine sA hS hR (Yld.eql hS rfl rfl) (by decide) ?_; clear hS; intro aa hS
        replace hS := hS.sayB (t := 193) false rfl (by simp)
        refine sA hS hR (Yld.move hS rfl) (by decide) ?_; clear hS; intro aa hS
        refine sB (Bcall hS rfl Try.call25 (RRight_ok hR) (by decide) ?_); clear hS; intro aa ww vv hS hp
        clear hR
        obtain ⟨rfl, hR⟩ := hp
        refine sA hS hR (Yld.neqB hS rfl rfl Try.underlying4) (by decide) ?_; clear hS; intro aa hS
        replace hS := hS.sayB (t := 196) false rfl (by rw [decide_eq_false hn]; rfl)
        refine sA hS hR (Yld.move hS rfl) (by decide) ?_; clear hS; intro aa hS
        refine sAg hS hR rfl rfl (Yld.move hS rfl) (by decide) ?_; clear hS; intro aa hS
        refine sAg hS hR rfl rfl (Yld.eql hS rfl rfl) (by decide) ?_; clear hS; intro aa hS
        replace hS := hS.sayB (t := 199) false rfl (by simp)
        refine sAg hS hR rfl rfl (Yld.move hS rfl) (by decide) ?_; clear hS; intro aa hS
        refine sSkip hS rfl rfl rfl (by decide) ?_; clear hS; intro aa hS
        refine sSkip hS rfl rfl rfl (by decide) ?_; clear hS; intro aa hS
        refine sSkip hS rfl rfl rfl (by decide) ?_; clear hS; intro aa hS
        refine sSkipU hS rfl rfl (by decide) ?_; clear hS; intro aa hS
        refine sSkipU hS rfl rfl (by decide) ?_; clear hS; intro aa hS
        refine sSkipU hS rfl rfl (by decide) ?_; clear hS; intro aa hS
        refine sSkip hS rfl rfl rfl (by decide) ?_; clear hS; intro aa hS
        refine sSkip hS rfl rfl rfl (by decide) ?_; clear hS; intro aa hS
        refine sSkipU hS rfl rfl (by decide) ?_; clear hS; intro aa hS
        refine sSkipU hS rfl rfl (by decide) ?_; clear hS; intro aa hS
        refine sSkipU hS rfl rfl (by decide) ?_; clear hS; intro aa hS
        refine sSkip hS rfl rfl rfl (by decide) ?_; clear hS; intro aa hS
        refine sAg hS hR rfl rfl (Yld.pickF hS rfl rfl) (by decide) ?_; clear hS; intro aa hS
        refine sA hS hR (Yld.pickF hS rfl rfl) (by decide) ?_; clear hS; intro aa hS
        refine wpList_nil ?_
        refine hK572 _ _ ?_
        refine condF hS rfl ?_
        refine wp_skip ?_
        refine hK568 _ _ ?_
        refine wp_region_lit ?_
        refine sA hS hR ((by first | exact Yld.add64 hS rfl rfl (by omega) | exact Yld.add hS rfl rfl)) (by decide) ?_; clear hS; intro aa hS
        refine sA hS hR (Yld.move hS rfl) (by decide) ?_; clear hS; intro aa hS
        refine wpList_nil ?_
        
        refine ⟨ia + 1, ?_, ?_, hS.le (Le.cons rfl (Le.nilapp (Le.cons rfl (Le.cons rfl (Le.nil _))))), hR.sub (Ex.nilapp exQ)⟩
        · omega
        · omega
    · intro hg hS
      refine condF hS rfl ?_
      refine wp_exit ?_
      refine hK563 _ _ ?_
      refine wp_seq_k ?_; intro K573 hK573
      refine wp_seq_k ?_; intro K574 hK574
      refine wp_region_lit ?_
      refine sA hS hR (Yld.build hS rfl (bld69_)) (by decide) ?_; clear hS; intro aa hS
      refine sB (Bbox hS hR rfl (by rfl) (by decide) ?_); clear hS hR; intro aa ww bb217 hS hR
      refine sB (BbuildSlice hS hR rfl (bls70_2_0_1 _ _) (by decide) ?_); clear hS hR; intro aa ww bb218 hS hR
      replace hR := hR.pk (r := blk bb218 _ _) pkQ
      replace hR := Sep.toRecs (m := 2) (sz := 1) (enc := ePs) ([none, some ⟨bb217, 0, none⟩] : List (Option Addr)) hR rfl (by intro _; rfl) rfl
      refine sA hS hR (Yld.len hS rfl Try.underlying70) (by decide) ?_; clear hS; intro aa hS
      refine sA hS hR (Yld.move hS rfl) (by decide) ?_; clear hS; intro aa hS
      refine wpList_nil ?_
      refine hK574 _ _ ?_
      refine wp_block ?_
      refine loopI (X := Nat) [(218, _), (219, _)] (fun x => [(220, .int .i64 (x : Int))]) (fun x => []) _ (fun x => x ≤ 2) (fun x => 2 - x) 0 (Nat.zero_le _) (hS.le (Le.cons rfl (Le.nilapp (Le.cons rfl (Le.cons rfl (Le.nil _)))))) hR ?_
      clear hS hR; rintro i aa ww hI hS hR; dsimp only [List.cons_append, List.nil_append] at hI hS hR
      refine wp_seq_k ?_; intro K576 hK576
      refine wp_region_lit ?_
      refine sA hS hR (Yld.lss hS rfl rfl) (by decide) ?_; clear hS; intro aa hS
      refine wpList_nil ?_
      refine hK576 _ _ ?_
      refine wp_seq_k ?_; intro K577 hK577
      refine hS.splitB (t := 221) rfl ?_ ?_ <;> clear hS
      · intro hg hS
        have hi2 : i < 2 := by omega
        refine condT hS rfl ?_
        refine wp_skip ?_
        refine hK577 _ _ ?_
        refine wp_seq_k ?_; intro K578 hK578
        refine wp_block ?_
        refine wp_seq_k ?_; intro K579 hK579
        refine wp_region_lit ?_
        by_cases hn : i = 0
        ·
          refine sA hS hR ((by first | exact Yld.indexL (sz := 1) (i) hS rfl rfl Try.underlying70 info26 pkQ rfl (by first | rfl | omega) (by omega) | exact Yld.indexB (sz := 1) (i) hS rfl rfl Try.underlying70 info26 rfl (by first | rfl | omega) (by omega))) (by decide) ?_; clear hS; intro aa hS
          try have hi1 : i = 1 := by omega
          refine sA hS hR (Yld.load1 hS rfl Try.underlying26 rfl (Rd.rec0 (k := i) (xs := ([none, some ⟨bb217, 0, none⟩] : List (Option Addr))) (v := .pointer none) pkQ (by intro _; rfl) (by show i < 2; omega) (by simp only [hn]; rfl))) (by decide) ?_; clear hS; intro aa hS
          refine sA hS hR (Yld.assign hS rfl) (by decide) ?_; clear hS; intro aa hS
          refine wpList_nil ?_
          refine hK579 _ _ ?_
          refine wp_seq_k ?_; intro K580 hK580
          refine wp_region_lit ?_
          refine sA hS hR (Yld.move hS rfl) (by decide) ?_; clear hS; intro aa hS
          refine sB (Bcall hS rfl Try.call15 (Example_ok hR) (by decide) ?_); clear hS; intro aa ww vv hS hp
          clear hR
          obtain ⟨rfl, hR⟩ := hp
          refine sB (Bcall hS rfl Try.call13 (tOut_n (k := exK) hR) (by decide) ?_); clear hS; intro aa ww vv hS hp
          clear hR
          obtain ⟨rfl, hR⟩ := hp
          refine sA hS hR (Yld.move hS rfl) (by decide) ?_; clear hS; intro aa hS
          refine sA hS hR (Yld.extract hS rfl rfl) (by decide) ?_; clear hS; intro aa hS
          refine sA hS hR (Yld.extract hS rfl rfl) (by decide) ?_; clear hS; intro aa hS
          refine sA hS hR (Yld.assign hS rfl) (by decide) ?_; clear hS; intro aa hS
          refine sA hS hR (Yld.assign hS rfl) (by decide) ?_; clear hS; intro aa hS
          refine wpList_nil ?_
          refine hK580 _ _ ?_
          refine wp_seq_k ?_; intro K581 hK581
          refine wp_region_lit ?_
          refine sA hS hR (Yld.move hS rfl) (by decide) ?_; clear hS; intro aa hS
          refine sB (Bcall hS rfl Try.call15 (Example_ok hR) (by decide) ?_); clear hS; intro aa ww vv hS hp
          clear hR
          obtain ⟨rfl, hR⟩ := hp
          refine sB (Bcall hS rfl Try.call16 (tGet_n (k := exK) hR) (by decide) ?_); clear hS; intro aa ww vv hS hp
          clear hR
          obtain ⟨rfl, hR⟩ := hp
          refine sA hS hR (Yld.move hS rfl) (by decide) ?_; clear hS; intro aa hS
          refine sA hS hR (Yld.extract hS rfl rfl) (by decide) ?_; clear hS; intro aa hS
          refine sA hS hR (Yld.extract hS rfl rfl) (by decide) ?_; clear hS; intro aa hS
          refine sA hS hR (Yld.assign hS rfl) (by decide) ?_; clear hS; intro aa hS
          refine sA hS hR (Yld.assign hS rfl) (by decide) ?_; clear hS; intro aa hS
          refine wpList_nil ?_
          refine hK581 _ _ ?_
          refine wp_seq_k ?_; intro K582 hK582
          refine wp_region_lit ?_
          refine sA hS hR (Yld.move hS rfl) (by decide) ?_; clear hS; intro aa hS
          refine sB (Bcall hS rfl Try.call15 (Example_ok hR) (by decide) ?_); clear hS; intro aa ww vv hS hp
          clear hR
          obtain ⟨rfl, hR⟩ := hp
          refine sB (Bcall hS rfl Try.call12 (tPut_n (k := exK) (i := 1) hR) (by decide) ?_); clear hS; intro aa ww vv hS hp
          clear hR
          obtain ⟨rfl, hR⟩ := hp
          refine sA hS hR (Yld.neq hS rfl rfl) (by decide) ?_; clear hS; intro aa hS
          replace hS := hS.sayB (t := 239) false rfl (by simp)
          refine sA hS hR (Yld.move hS rfl) (by decide) ?_; clear hS; intro aa hS
          refine sAg hS hR rfl rfl (Yld.move hS rfl) (by decide) ?_; clear hS; intro aa hS
          refine sAg hS hR rfl rfl (Yld.neq hS rfl rfl) (by decide) ?_; clear hS; intro aa hS
          replace hS := hS.sayB (t := 242) false rfl (by simp)
          refine sA hS hR (Yld.pickF hS rfl rfl) (by decide) ?_; clear hS; intro aa hS
          refine sA hS hR (Yld.move hS rfl) (by decide) ?_; clear hS; intro aa hS
          refine sAg hS hR rfl rfl (Yld.move hS rfl) (by decide) ?_; clear hS; intro aa hS
          replace hS := hS.sayB (t := 245) false rfl (by rfl)
          refine sA hS hR (Yld.pickF hS rfl rfl) (by decide) ?_; clear hS; intro aa hS
          refine sA hS hR (Yld.move hS rfl) (by decide) ?_; clear hS; intro aa hS
          refine sAg hS hR rfl rfl (Yld.move hS rfl) (by decide) ?_; clear hS; intro aa hS
          refine sBg hS rfl rfl (Bcall hS rfl Try.call14 (tLen_n  hR) (by decide) ?_); clear hS; intro aa ww vv hS hp
          clear hR
          obtain ⟨rfl, hR⟩ := hp
          refine sAg hS hR rfl rfl (Yld.move hS rfl) (by decide) ?_; clear hS; intro aa hS
          refine sBg hS rfl rfl (Bcall hS rfl Try.call19 (tNodes_n  hR) (by decide) ?_); clear hS; intro aa ww vv hS hp
          clear hR
          obtain ⟨rfl, hR⟩ := hp
          refine sAg hS hR rfl rfl ((by first | exact Yld.add64 hS rfl rfl (by omega) | exact Yld.add hS rfl rfl)) (by decide) ?_; clear hS; intro aa hS
          refine sAg hS hR rfl rfl (Yld.move hS rfl) (by decide) ?_; clear hS; intro aa hS
          refine sBg hS rfl rfl (Bcall hS rfl Try.call15 (Example_ok hR) (by decide) ?_); clear hS; intro aa ww vv hS hp
          clear hR
          obtain ⟨rfl, hR⟩ := hp
          refine sBg hS rfl rfl (Bcall hS rfl Try.call31 (tSteps_n (k := exK) hR) (by decide) ?_); clear hS; intro aa ww vv hS hp
          clear hR
          obtain ⟨rfl, hR⟩ := hp
          refine sAg hS hR rfl rfl ((by first | exact Yld.add64 hS rfl rfl (by omega) | exact Yld.add hS rfl rfl)) (by decide) ?_; clear hS; intro aa hS
          refine sAg hS hR rfl rfl (Yld.move hS rfl) (by decide) ?_; clear hS; intro aa hS
          refine sBg hS rfl rfl (Bcall hS rfl Try.call15 (Example_ok hR) (by decide) ?_); clear hS; intro aa ww vv hS hp
          clear hR
          obtain ⟨rfl, hR⟩ := hp
          refine sBg hS rfl rfl (Bcall hS rfl Try.call23 (tCount_n (k := exK) (i := 0) hR) (by decide) ?_); clear hS; intro aa ww vv hS hp
          clear hR
          obtain ⟨rfl, hR⟩ := hp
          refine sAg hS hR rfl rfl ((by first | exact Yld.add64 hS rfl rfl (by omega) | exact Yld.add hS rfl rfl)) (by decide) ?_; clear hS; intro aa hS
          refine sAg hS hR rfl rfl (Yld.move hS rfl) (by decide) ?_; clear hS; intro aa hS
          refine sBg hS rfl rfl (Bcall hS rfl Try.call18 (tKeys_n  hR) (by decide) ?_); clear hS; intro aa ww vv hS hp
          clear hR
          obtain ⟨rfl, hR⟩ := hp
          refine sAg hS hR rfl rfl (Yld.len hS rfl Try.underlying24) (by decide) ?_; clear hS; intro aa hS
          refine sAg hS hR rfl rfl ((by first | exact Yld.add64 hS rfl rfl (by omega) | exact Yld.add hS rfl rfl)) (by decide) ?_; clear hS; intro aa hS
          refine sAg hS hR rfl rfl (Yld.move hS rfl) (by decide) ?_; clear hS; intro aa hS
          refine sBg hS rfl rfl (Bcall hS rfl Try.call15 (Example_ok hR) (by decide) ?_); clear hS; intro aa ww vv hS hp
          clear hR
          obtain ⟨rfl, hR⟩ := hp
          refine sBg hS rfl rfl (Bcall hS rfl Try.call21 (tUnder_n (k := exK) (i := 0) hR) (by decide) ?_); clear hS; intro aa ww vv hS hp
          clear hR
          obtain ⟨rfl, hR⟩ := hp
          refine sAg hS hR rfl rfl (Yld.len hS rfl Try.underlying24) (by decide) ?_; clear hS; intro aa hS
          refine sAg hS hR rfl rfl ((by first | exact Yld.add64 hS rfl rfl (by omega) | exact Yld.add hS rfl rfl)) (by decide) ?_; clear hS; intro aa hS
          refine sAg hS hR rfl rfl (Yld.neq hS rfl rfl) (by decide) ?_; clear hS; intro aa hS
          replace hS := hS.sayB (t := 270) false rfl (by simp)
          refine sA hS hR (Yld.pickF hS rfl rfl) (by decide) ?_; clear hS; intro aa hS
          refine wpList_nil ?_
          refine hK582 _ _ ?_
          refine condF hS rfl ?_
          refine wp_skip ?_
          refine hK578 _ _ ?_
          refine wp_region_lit ?_
          refine sA hS hR ((by first | exact Yld.add64 hS rfl rfl (by omega) | exact Yld.add hS rfl rfl)) (by decide) ?_; clear hS; intro aa hS
          refine sA hS hR (Yld.move hS rfl) (by decide) ?_; clear hS; intro aa hS
          refine wpList_nil ?_
          
          refine ⟨i + 1, ?_, ?_, hS.le (Le.cons rfl (Le.nilapp (Le.cons rfl (Le.cons rfl (Le.nil _))))), hR.sub (Ex.nilapp exQ)⟩
          · omega
          · omega
        ·
          refine sA hS hR ((by first | exact Yld.indexL (sz := 1) (i) hS rfl rfl Try.underlying70 info26 pkQ rfl (by first | rfl | omega) (by omega) | exact Yld.indexB (sz := 1) (i) hS rfl rfl Try.underlying70 info26 rfl (by first | rfl | omega) (by omega))) (by decide) ?_; clear hS; intro aa hS
          try have hi1 : i = 1 := by omega
          refine sA hS hR (Yld.load1 hS rfl Try.underlying26 rfl (Rd.rec0 (k := i) (xs := ([none, some ⟨bb217, 0, none⟩] : List (Option Addr))) (v := .pointer (some ⟨bb217, 0, none⟩)) pkQ (by intro _; rfl) (by show i < 2; omega) (by simp only [hi1]; rfl))) (by decide) ?_; clear hS; intro aa hS
          refine sA hS hR (Yld.assign hS rfl) (by decide) ?_; clear hS; intro aa hS
          refine wpList_nil ?_
          refine hK579 _ _ ?_
          refine wp_seq_k ?_; intro K583 hK583
          refine wp_region_lit ?_
          refine sA hS hR (Yld.move hS rfl) (by decide) ?_; clear hS; intro aa hS
          refine sB (Bcall hS rfl Try.call15 (Example_ok hR) (by decide) ?_); clear hS; intro aa ww vv hS hp
          clear hR
          obtain ⟨rfl, hR⟩ := hp
          refine sB (Bcall hS rfl Try.call13 (tOut_z (k := exK) (hR.pk (r := blk bb217 _ _) pkQ)) (by decide) ?_); clear hS; intro aa ww vv hS hp
          clear hR
          obtain ⟨rfl, hR⟩ := hp
          refine sA hS hR (Yld.move hS rfl) (by decide) ?_; clear hS; intro aa hS
          refine sA hS hR (Yld.extract hS rfl rfl) (by decide) ?_; clear hS; intro aa hS
          refine sA hS hR (Yld.extract hS rfl rfl) (by decide) ?_; clear hS; intro aa hS
          refine sA hS hR (Yld.assign hS rfl) (by decide) ?_; clear hS; intro aa hS
          refine sA hS hR (Yld.assign hS rfl) (by decide) ?_; clear hS; intro aa hS
          refine wpList_nil ?_
          refine hK583 _ _ ?_
          refine wp_seq_k ?_; intro K584 hK584
          refine wp_region_lit ?_
          refine sA hS hR (Yld.move hS rfl) (by decide) ?_; clear hS; intro aa hS
          refine sB (Bcall hS rfl Try.call15 (Example_ok hR) (by decide) ?_); clear hS; intro aa ww vv hS hp
          clear hR
          obtain ⟨rfl, hR⟩ := hp
          refine sB (Bcall hS rfl Try.call16 (tGet_z (k := exK) (hR.pk (r := blk bb217 _ _) pkQ)) (by decide) ?_); clear hS; intro aa ww vv hS hp
          clear hR
          obtain ⟨rfl, hR⟩ := hp
          refine sA hS hR (Yld.move hS rfl) (by decide) ?_; clear hS; intro aa hS
          refine sA hS hR (Yld.extract hS rfl rfl) (by decide) ?_; clear hS; intro aa hS
          refine sA hS hR (Yld.extract hS rfl rfl) (by decide) ?_; clear hS; intro aa hS
          refine sA hS hR (Yld.assign hS rfl) (by decide) ?_; clear hS; intro aa hS
          refine sA hS hR (Yld.assign hS rfl) (by decide) ?_; clear hS; intro aa hS
          refine wpList_nil ?_
          refine hK584 _ _ ?_
          refine wp_seq_k ?_; intro K585 hK585
          refine wp_region_lit ?_
          refine sA hS hR (Yld.move hS rfl) (by decide) ?_; clear hS; intro aa hS
          refine sB (Bcall hS rfl Try.call15 (Example_ok hR) (by decide) ?_); clear hS; intro aa ww vv hS hp
          clear hR
          obtain ⟨rfl, hR⟩ := hp
          refine sB (Bcall hS rfl Try.call12 (tPut_z (k := exK) (i := 1) (hR.pk (r := blk bb217 _ _) pkQ)) (by decide) ?_); clear hS; intro aa ww vv hS hp
          clear hR
          obtain ⟨rfl, hR⟩ := hp
          refine sA hS hR (Yld.neq hS rfl rfl) (by decide) ?_; clear hS; intro aa hS
          replace hS := hS.sayB (t := 239) false rfl (by simp)
          refine sA hS hR (Yld.move hS rfl) (by decide) ?_; clear hS; intro aa hS
          refine sAg hS hR rfl rfl (Yld.move hS rfl) (by decide) ?_; clear hS; intro aa hS
          refine sAg hS hR rfl rfl (Yld.neq hS rfl rfl) (by decide) ?_; clear hS; intro aa hS
          replace hS := hS.sayB (t := 242) false rfl (by simp)
          refine sA hS hR (Yld.pickF hS rfl rfl) (by decide) ?_; clear hS; intro aa hS
          refine sA hS hR (Yld.move hS rfl) (by decide) ?_; clear hS; intro aa hS
          refine sAg hS hR rfl rfl (Yld.move hS rfl) (by decide) ?_; clear hS; intro aa hS
          replace hS := hS.sayB (t := 245) false rfl (by rfl)
          refine sA hS hR (Yld.pickF hS rfl rfl) (by decide) ?_; clear hS; intro aa hS
          refine sA hS hR (Yld.move hS rfl) (by decide) ?_; clear hS; intro aa hS
          refine sAg hS hR rfl rfl (Yld.move hS rfl) (by decide) ?_; clear hS; intro aa hS
          refine sBg hS rfl rfl (Bcall hS rfl Try.call14 (tLen_z  (hR.pk (r := blk bb217 _ _) pkQ)) (by decide) ?_); clear hS; intro aa ww vv hS hp
          clear hR
          obtain ⟨rfl, hR⟩ := hp
          refine sAg hS hR rfl rfl (Yld.move hS rfl) (by decide) ?_; clear hS; intro aa hS
          refine sBg hS rfl rfl (Bcall hS rfl Try.call19 (tNodes_z  (hR.pk (r := blk bb217 _ _) pkQ)) (by decide) ?_); clear hS; intro aa ww vv hS hp
          clear hR
          obtain ⟨rfl, hR⟩ := hp
          refine sAg hS hR rfl rfl ((by first | exact Yld.add64 hS rfl rfl (by omega) | exact Yld.add hS rfl rfl)) (by decide) ?_; clear hS; intro aa hS
          refine sAg hS hR rfl rfl (Yld.move hS rfl) (by decide) ?_; clear hS; intro aa hS
          refine sBg hS rfl rfl (Bcall hS rfl Try.call15 (Example_ok hR) (by decide) ?_); clear hS; intro aa ww vv hS hp
          clear hR
          obtain ⟨rfl, hR⟩ := hp
          refine sBg hS rfl rfl (Bcall hS rfl Try.call31 (tSteps_z (k := exK) (hR.pk (r := blk bb217 _ _) pkQ)) (by decide) ?_); clear hS; intro aa ww vv hS hp
          clear hR
          obtain ⟨rfl, hR⟩ := hp
          refine sAg hS hR rfl rfl ((by first | exact Yld.add64 hS rfl rfl (by omega) | exact Yld.add hS rfl rfl)) (by decide) ?_; clear hS; intro aa hS
          refine sAg hS hR rfl rfl (Yld.move hS rfl) (by decide) ?_; clear hS; intro aa hS
          refine sBg hS rfl rfl (Bcall hS rfl Try.call15 (Example_ok hR) (by decide) ?_); clear hS; intro aa ww vv hS hp
          clear hR
          obtain ⟨rfl, hR⟩ := hp
          refine sBg hS rfl rfl (Bcall hS rfl Try.call23 (tCount_z (k := exK) (i := 0) (hR.pk (r := blk bb217 _ _) pkQ)) (by decide) ?_); clear hS; intro aa ww vv hS hp
          clear hR
          obtain ⟨rfl, hR⟩ := hp
          refine sAg hS hR rfl rfl ((by first | exact Yld.add64 hS rfl rfl (by omega) | exact Yld.add hS rfl rfl)) (by decide) ?_; clear hS; intro aa hS
          refine sAg hS hR rfl rfl (Yld.move hS rfl) (by decide) ?_; clear hS; intro aa hS
          refine sBg hS rfl rfl (Bcall hS rfl Try.call18 (tKeys_z  (hR.pk (r := blk bb217 _ _) pkQ)) (by decide) ?_); clear hS; intro aa ww vv hS hp
          clear hR
          obtain ⟨rfl, hR⟩ := hp
          refine sAg hS hR rfl rfl (Yld.len hS rfl Try.underlying24) (by decide) ?_; clear hS; intro aa hS
          refine sAg hS hR rfl rfl ((by first | exact Yld.add64 hS rfl rfl (by omega) | exact Yld.add hS rfl rfl)) (by decide) ?_; clear hS; intro aa hS
          refine sAg hS hR rfl rfl (Yld.move hS rfl) (by decide) ?_; clear hS; intro aa hS
          refine sBg hS rfl rfl (Bcall hS rfl Try.call15 (Example_ok hR) (by decide) ?_); clear hS; intro aa ww vv hS hp
          clear hR
          obtain ⟨rfl, hR⟩ := hp
          refine sBg hS rfl rfl (Bcall hS rfl Try.call21 (tUnder_z (k := exK) (i := 0) (hR.pk (r := blk bb217 _ _) pkQ)) (by decide) ?_); clear hS; intro aa ww vv hS hp
          clear hR
          obtain ⟨rfl, hR⟩ := hp
          refine sAg hS hR rfl rfl (Yld.len hS rfl Try.underlying24) (by decide) ?_; clear hS; intro aa hS
          refine sAg hS hR rfl rfl ((by first | exact Yld.add64 hS rfl rfl (by omega) | exact Yld.add hS rfl rfl)) (by decide) ?_; clear hS; intro aa hS
          refine sAg hS hR rfl rfl (Yld.neq hS rfl rfl) (by decide) ?_; clear hS; intro aa hS
          replace hS := hS.sayB (t := 270) false rfl (by simp)
          refine sA hS hR (Yld.pickF hS rfl rfl) (by decide) ?_; clear hS; intro aa hS
          refine wpList_nil ?_
          refine hK585 _ _ ?_
          refine condF hS rfl ?_
          refine wp_skip ?_
          refine hK578 _ _ ?_
          refine wp_region_lit ?_
          refine sA hS hR ((by first | exact Yld.add64 hS rfl rfl (by omega) | exact Yld.add hS rfl rfl)) (by decide) ?_; clear hS; intro aa hS
          refine sA hS hR (Yld.move hS rfl) (by decide) ?_; clear hS; intro aa hS
          refine wpList_nil ?_
          
          refine ⟨i + 1, ?_, ?_, hS.le (Le.cons rfl (Le.nilapp (Le.cons rfl (Le.cons rfl (Le.nil _))))), hR.sub (Ex.nilapp exQ)⟩
          · omega
          · omega
      · intro hg hS
        refine condF hS rfl ?_
        refine wp_exit ?_
        refine hK573 _ _ ?_
        refine wp_seq_k ?_; intro K586 hK586
        refine wp_region_lit ?_
        refine sB (Bcall hS rfl Try.call17 (awake_ok hR) (by decide) ?_); clear hS; intro aa ww vv hS hp
        clear hR
        obtain ⟨rfl, hR⟩ := hp
        refine sA hS hR (Yld.assign hS rfl) (by decide) ?_; clear hS; intro aa hS
        refine wpList_nil ?_
        refine hK586 _ _ ?_
        refine wp_ret ?_
        repeat (first | with_reducible refine thenR ?_ | with_reducible refine blockR ?_ | with_reducible refine scopeR ?_)
        refine ret1 (fn := Try.f8) (e := .ret) (.inl rfl) Try.results8 hS hR ⟨_, (.tmp rfl), ?_⟩
        exact ⟨rfl, (hR.sub exQ)⟩
end Go.Proofs.Ytmcfmhiadlkglaa.Sx
