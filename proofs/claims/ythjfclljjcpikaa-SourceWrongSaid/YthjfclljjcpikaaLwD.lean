/-
 
-/
import Derived.Test.YthjfclljjcpikaaLwB
namespace Go.Proofs.Ythjfclljjcpikaa.Sx
open Go
set_option linter.unusedVariables false
set_option linter.unusedSimpArgs false

theorem info31 : Try.prog.info? 31 = some Try.t31 := by kernel_rfl
theorem bls64_8_0_1_2_3_4_5_6_7 (x0 : Int) (x1 : Int) (x2 : Int) (x3 : Int) (x4 : Int) (x5 : Int) (x6 : Int) (x7 : Int) (w : World) : (Instr.buildSlice 64 8 [(0, .int .i64 x0), (1, .int .i64 x1), (2, .int .i64 x2), (3, .int .i64 x3), (4, .int .i64 x4), (5, .int .i64 x5), (6, .int .i64 x6), (7, .int .i64 x7)].toArray).run Try.prog w = .ok (.slice (some ⟨w.heap.size, 0, none⟩) 8 8) (w.alloc (.cells ([.int .i64 x0, .int .i64 x1, .int .i64 x2, .int .i64 x3, .int .i64 x4, .int .i64 x5, .int .i64 x6, .int .i64 x7] : List Value).toArray 31)) := by kernel_rfl

theorem eight2 {i : Nat} (h : i < 8) : ([2, 2, 2, 2, 2, 2, 2, 2] : List Int)[i]'(by show i < 8; exact h) = 2 := by
 match i, h with
 | 0, _ | 1, _ | 2, _ | 3, _ | 4, _ | 5, _ | 6, _ | 7, _ => rfl
set_option maxHeartbeats 4000000 in
set_option maxRecDepth 20000 in
theorem SourceWrong_ok {W : World} {q : Option Addr} {n c : Nat} {a b0 z ad : Int} {xs : List (List Int)} (A1 : ArgS W [.u8, .u32, .i64] q n c xs) {l : List HP} {w : World} (ha : 0 ≤ a ∧ a ≤ 255) (hb0 : 0 ≤ b0 ∧ b0 ≤ 255) (had : 0 ≤ ad ∧ ad ≤ 4294967295) (hR : Sep (old W :: l) w) : CallR Try.prog 8 [.int .u8 a, .int .u8 b0, .slice q n c, .int .i64 z, .int .u32 ad] w (fun v w' => v = .bool true ∧ Sep (old W :: l) w') := by
 refine enter Try.func8 rfl Try.ntmps8 (Nat.le_of_ble_eq_true rfl) ?_; intro aa hS
 refine wp_seq_k ?_; intro K636 hK636
 refine wp_region_lit ?_
 refine sA hS hR (Yld.assign hS rfl) (by decide) ?_; clear hS; intro aa hS
 refine wpList_nil ?_
 refine hK636 _ _ ?_
 refine wp_seq_k ?_; intro K637 hK637
 refine wp_seq_k ?_; intro K638 hK638
 refine wp_region_lit ?_
 refine sB (Bcall hS rfl Try.call10 (awake31_ok hR) (by decide) ?_); clear hS; intro aa ww vv hS hp
 clear hR
 obtain ⟨rfl, hR⟩ := hp
 refine sA hS hR (Yld.not hS rfl) (by decide) ?_; clear hS; intro aa hS
 refine wpList_nil ?_
 refine hK638 _ _ ?_
 refine condF hS rfl ?_
 refine wp_skip ?_
 refine hK637 _ _ ?_
 refine wp_seq_k ?_; intro K639 hK639
 refine wp_region_lit ?_
 refine sA hS hR (Yld.move hS rfl) (by decide) ?_; clear hS; intro aa hS
 refine sA hS hR (Yld.move hS rfl) (by decide) ?_; clear hS; intro aa hS
 refine sA hS hR (Yld.move hS rfl) (by decide) ?_; clear hS; intro aa hS
 refine sB (Bcall hS rfl Try.call25 (made31_ok A1 ha hb0 (hR.pk (r := old W) pkQ)) (by decide) ?_); clear hS; intro aa ww vv hS hp
 clear hR
 obtain ⟨b, S, lim, rfl, hSe, hle, hR⟩ := hp
 obtain ⟨T, hTe⟩ : ∃ y, fT S lim xs (min n 100) = y := ⟨_, rfl⟩
 rw [hTe] at hR
 have hSF : SF S lim T := by rw [← hTe]; exact fT_SF (by omega) (by omega)
 have hol := hSF.olen
 have hrl := hSF.rlen
 have hall := hSF.allLen
 refine sA hS hR (Yld.assign hS rfl) (by decide) ?_; clear hS; intro aa hS
 refine wpList_nil ?_
 refine hK639 _ _ ?_
 refine wp_seq_k ?_; intro K640 hK640
 refine wp_seq_k ?_; intro K641 hK641
 refine wp_region_lit ?_
 refine sA hS hR (Yld.move hS rfl) (by decide) ?_; clear hS; intro aa hS
 refine sA hS hR (Yld.eqlNil hS rfl rfl Try.underlying24) (by decide) ?_; clear hS; intro aa hS
 replace hS := hS.sayB (t := 40) false rfl (by rfl)
 refine wpList_nil ?_
 refine hK641 _ _ ?_
 refine condF hS rfl ?_
 refine wp_skip ?_
 refine hK640 _ _ ?_
 refine wp_seq_k ?_; intro K642 hK642
 refine wp_region_lit ?_
 refine sA hS hR (Yld.move hS rfl) (by decide) ?_; clear hS; intro aa hS
 refine sA hS hR ((by first | exact Yld.to (Yld.convInt hS rfl rfl Try.underlying3) (congrArg (Value.int .i64) (IntWalk.i64_in _ (by omega))) | exact Yld.convInt hS rfl rfl Try.underlying3)) (by decide) ?_; clear hS; intro aa hS
 refine sA hS hR ((by first | exact Yld.rem64 hS rfl rfl (by omega) | exact Yld.rem hS rfl rfl (by omega))) (by decide) ?_; clear hS; intro aa hS
 refine sA hS hR ((by first | exact Yld.add64 hS rfl rfl (by omega) | exact Yld.add hS rfl rfl)) (by decide) ?_; clear hS; intro aa hS
 replace hS := hS.say (t := 44) (.int .i64 (S : Int)) rfl (by rw [hSe])
 refine sA hS hR (Yld.assign hS rfl) (by decide) ?_; clear hS; intro aa hS
 refine wpList_nil ?_
 refine hK642 _ _ ?_
 refine wp_seq_k ?_; intro K643 hK643
 refine wp_region_lit ?_
 refine sA hS hR (Yld.move hS rfl) (by decide) ?_; clear hS; intro aa hS
 refine sB (Bcall hS rfl Try.call23 (soAll_ok (hR.pk (r := sourceA _ b _ _ _) pkQ)) (by decide) ?_); clear hS; intro aa ww vv hS hp
 clear hR
 obtain ⟨ra, ca, rfl, hR⟩ := hp
 refine sA hS hR (Yld.move hS rfl) (by decide) ?_; clear hS; intro aa hS
 refine sA hS hR (Yld.move hS rfl) (by decide) ?_; clear hS; intro aa hS
 refine sB (Bcall hS rfl Try.call14 (soCount_ok (a := ad) had (hR.pk (r := sourceA _ b _ _ _) pkQ)) (by decide) ?_); clear hS; intro aa ww vv hS hp
 clear hR
 obtain ⟨rfl, hR⟩ := hp
 refine sA hS hR (Yld.assign hS rfl) (by decide) ?_; clear hS; intro aa hS
 refine sA hS hR (Yld.assign hS rfl) (by decide) ?_; clear hS; intro aa hS
 refine wpList_nil ?_
 refine hK643 _ _ ?_
 refine wp_seq_k ?_; intro K644 hK644
 refine wp_region_lit ?_
 refine sA hS hR (Yld.move hS rfl) (by decide) ?_; clear hS; intro aa hS
 refine sA hS hR (Yld.min hS rfl rfl) (by decide) ?_; clear hS; intro aa hS
 refine sB (Bcall hS rfl Try.call16 (soNew_bad (m := Min.min z 0) (i := 1) hR (by omega)) (by decide) ?_); clear hS; intro aa ww vv hS hp
 clear hR
 obtain ⟨rfl, hR⟩ := hp
 refine sA hS hR (Yld.move hS rfl) (by decide) ?_; clear hS; intro aa hS
 refine sA hS hR (Yld.extract hS rfl rfl) (by decide) ?_; clear hS; intro aa hS
 refine sA hS hR (Yld.extract hS rfl rfl) (by decide) ?_; clear hS; intro aa hS
 refine sA hS hR (Yld.assign hS rfl) (by decide) ?_; clear hS; intro aa hS
 refine sA hS hR (Yld.assign hS rfl) (by decide) ?_; clear hS; intro aa hS
 refine wpList_nil ?_
 refine hK644 _ _ ?_
 refine wp_seq_k ?_; intro K645 hK645
 refine wp_region_lit ?_
 refine sA hS hR (Yld.move hS rfl) (by decide) ?_; clear hS; intro aa hS
 refine sA hS hR (Yld.max hS rfl rfl) (by decide) ?_; clear hS; intro aa hS
 refine sB (Bcall hS rfl Try.call16 (soNew_bad (m := Max.max z 4097) (i := 1) hR (by omega)) (by decide) ?_); clear hS; intro aa ww vv hS hp
 clear hR
 obtain ⟨rfl, hR⟩ := hp
 refine sA hS hR (Yld.move hS rfl) (by decide) ?_; clear hS; intro aa hS
 refine sA hS hR (Yld.extract hS rfl rfl) (by decide) ?_; clear hS; intro aa hS
 refine sA hS hR (Yld.extract hS rfl rfl) (by decide) ?_; clear hS; intro aa hS
 refine sA hS hR (Yld.assign hS rfl) (by decide) ?_; clear hS; intro aa hS
 refine sA hS hR (Yld.assign hS rfl) (by decide) ?_; clear hS; intro aa hS
 refine wpList_nil ?_
 refine hK645 _ _ ?_
 refine wp_seq_k ?_; intro K646 hK646
 refine wp_region_lit ?_
 refine sA hS hR (Yld.move hS rfl) (by decide) ?_; clear hS; intro aa hS
 refine sA hS hR (Yld.min hS rfl rfl) (by decide) ?_; clear hS; intro aa hS
 refine sB (Bcall hS rfl Try.call16 (soNew_bad (m := 1) (i := Min.min z 0) hR (by omega)) (by decide) ?_); clear hS; intro aa ww vv hS hp
 clear hR
 obtain ⟨rfl, hR⟩ := hp
 refine sA hS hR (Yld.move hS rfl) (by decide) ?_; clear hS; intro aa hS
 refine sA hS hR (Yld.extract hS rfl rfl) (by decide) ?_; clear hS; intro aa hS
 refine sA hS hR (Yld.extract hS rfl rfl) (by decide) ?_; clear hS; intro aa hS
 refine sA hS hR (Yld.assign hS rfl) (by decide) ?_; clear hS; intro aa hS
 refine sA hS hR (Yld.assign hS rfl) (by decide) ?_; clear hS; intro aa hS
 refine wpList_nil ?_
 refine hK646 _ _ ?_
 refine wp_seq_k ?_; intro K647 hK647
 refine wp_region_lit ?_
 refine sA hS hR (Yld.move hS rfl) (by decide) ?_; clear hS; intro aa hS
 refine sA hS hR (Yld.max hS rfl rfl) (by decide) ?_; clear hS; intro aa hS
 refine sB (Bcall hS rfl Try.call16 (soNew_bad (m := 1) (i := Max.max z 65) hR (by omega)) (by decide) ?_); clear hS; intro aa ww vv hS hp
 clear hR
 obtain ⟨rfl, hR⟩ := hp
 refine sA hS hR (Yld.move hS rfl) (by decide) ?_; clear hS; intro aa hS
 refine sA hS hR (Yld.extract hS rfl rfl) (by decide) ?_; clear hS; intro aa hS
 refine sA hS hR (Yld.extract hS rfl rfl) (by decide) ?_; clear hS; intro aa hS
 refine sA hS hR (Yld.assign hS rfl) (by decide) ?_; clear hS; intro aa hS
 refine sA hS hR (Yld.assign hS rfl) (by decide) ?_; clear hS; intro aa hS
 refine wpList_nil ?_
 refine hK647 _ _ ?_
 refine wp_seq_k ?_; intro K648 hK648
 refine wp_region_lit ?_
 refine sA hS hR (Yld.move hS rfl) (by decide) ?_; clear hS; intro aa hS
 refine sA hS hR (Yld.move hS rfl) (by decide) ?_; clear hS; intro aa hS
 refine sA hS hR (Yld.min hS rfl rfl) (by decide) ?_; clear hS; intro aa hS
 refine sB (Bcall hS rfl Try.call20 (soClose_ok (x := Min.min z (-1)) (hR.pk (r := sourceA _ b _ _ _) pkQ)) (by decide) ?_); clear hS; intro aa ww vv hS hp
 clear hR
 obtain ⟨rfl, hR⟩ := hp
 rw [(hSF.cls_bad (x := Min.min z (-1)) (by omega)).1] at hS; rw [(hSF.cls_bad (x := Min.min z (-1)) (by omega)).2] at hR
 refine sA hS hR (Yld.move hS rfl) (by decide) ?_; clear hS; intro aa hS
 refine sA hS hR (Yld.extract hS rfl rfl) (by decide) ?_; clear hS; intro aa hS
 refine sA hS hR (Yld.extract hS rfl rfl) (by decide) ?_; clear hS; intro aa hS
 refine sA hS hR (Yld.assign hS rfl) (by decide) ?_; clear hS; intro aa hS
 refine sA hS hR (Yld.assign hS rfl) (by decide) ?_; clear hS; intro aa hS
 refine wpList_nil ?_
 refine hK648 _ _ ?_
 refine wp_seq_k ?_; intro K649 hK649
 refine wp_region_lit ?_
 refine sA hS hR (Yld.move hS rfl) (by decide) ?_; clear hS; intro aa hS
 refine sA hS hR (Yld.move hS rfl) (by decide) ?_; clear hS; intro aa hS
 refine sA hS hR (Yld.move hS rfl) (by decide) ?_; clear hS; intro aa hS
 refine sA hS hR (Yld.max hS rfl rfl) (by decide) ?_; clear hS; intro aa hS
 refine sB (Bcall hS rfl Try.call20 (soClose_ok (x := Max.max z (S : Int)) (hR.pk (r := sourceA _ b _ _ _) pkQ)) (by decide) ?_); clear hS; intro aa ww vv hS hp
 clear hR
 obtain ⟨rfl, hR⟩ := hp
 rw [(hSF.cls_bad (x := Max.max z (S : Int)) (by omega)).1] at hS; rw [(hSF.cls_bad (x := Max.max z (S : Int)) (by omega)).2] at hR
 refine sA hS hR (Yld.move hS rfl) (by decide) ?_; clear hS; intro aa hS
 refine sA hS hR (Yld.extract hS rfl rfl) (by decide) ?_; clear hS; intro aa hS
 refine sA hS hR (Yld.extract hS rfl rfl) (by decide) ?_; clear hS; intro aa hS
 refine sA hS hR (Yld.assign hS rfl) (by decide) ?_; clear hS; intro aa hS
 refine sA hS hR (Yld.assign hS rfl) (by decide) ?_; clear hS; intro aa hS
 refine wpList_nil ?_
 refine hK649 _ _ ?_
 refine wp_seq_k ?_; intro K650 hK650
 refine wp_seq_k ?_; intro K651 hK651
 refine wp_region_lit ?_
 refine sA hS hR (Yld.move hS rfl) (by decide) ?_; clear hS; intro aa hS
 refine sA hS hR (Yld.move hS rfl) (by decide) ?_; clear hS; intro aa hS
 refine sA hS hR (Yld.move hS rfl) (by decide) ?_; clear hS; intro aa hS
 refine sA hS hR (Yld.move hS rfl) (by decide) ?_; clear hS; intro aa hS
 refine sA hS hR (Yld.move hS rfl) (by decide) ?_; clear hS; intro aa hS
 refine sA hS hR (Yld.move hS rfl) (by decide) ?_; clear hS; intro aa hS
 refine sA hS hR (Yld.move hS rfl) (by decide) ?_; clear hS; intro aa hS
 refine sA hS hR (Yld.move hS rfl) (by decide) ?_; clear hS; intro aa hS
 refine sA hS hR (Yld.move hS rfl) (by decide) ?_; clear hS; intro aa hS
 refine sA hS hR (Yld.min hS rfl rfl) (by decide) ?_; clear hS; intro aa hS
 refine sB (Bcall hS rfl Try.call17 (soOpen_ok (a := ad) (x := Min.min z (-1)) had (hR.pk (r := sourceA _ b _ _ _) pkQ)) (by decide) ?_); clear hS; intro aa ww vv hS hp
 clear hR
 obtain ⟨rfl, hR⟩ := hp
 rw [(opn_bad (x := Min.min z (-1)) (by omega)).1] at hS; rw [(opn_bad (x := Min.min z (-1)) (by omega)).2] at hR
 refine sA hS hR (Yld.move hS rfl) (by decide) ?_; clear hS; intro aa hS
 refine sA hS hR (Yld.move hS rfl) (by decide) ?_; clear hS; intro aa hS
 refine sA hS hR (Yld.move hS rfl) (by decide) ?_; clear hS; intro aa hS
 refine sA hS hR (Yld.move hS rfl) (by decide) ?_; clear hS; intro aa hS
 refine sA hS hR (Yld.max hS rfl rfl) (by decide) ?_; clear hS; intro aa hS
 refine sB (Bcall hS rfl Try.call17 (soOpen_ok (a := ad) (x := Max.max z (S : Int)) had (hR.pk (r := sourceA _ b _ _ _) pkQ)) (by decide) ?_); clear hS; intro aa ww vv hS hp
 clear hR
 obtain ⟨rfl, hR⟩ := hp
 rw [(opn_bad (x := Max.max z (S : Int)) (by omega)).1] at hS; rw [(opn_bad (x := Max.max z (S : Int)) (by omega)).2] at hR
 refine sB (BbuildSlice hS hR rfl (bls64_8_0_1_2_3_4_5_6_7 _ _ _ _ _ _ _ _) (by decide) ?_); clear hS hR; intro aa ww bb106 hS hR
 replace hR := hR.pk (r := blk bb106 _ _) pkQ
 replace hR := Sep.toRecs (m := 8) (sz := 1) (enc := e1) ([2, 2, 2, 2, 2, 2, 2, 2] : List Int) hR rfl (by intro _; rfl) rfl
 refine sA hS hR (Yld.len hS rfl Try.underlying64) (by decide) ?_; clear hS; intro aa hS
 refine sA hS hR (Yld.move hS rfl) (by decide) ?_; clear hS; intro aa hS
 refine wpList_nil ?_
 refine hK651 _ _ ?_
 refine wp_block ?_
 refine loopI (X := Nat) [(3, _), (4, _), (11, _), (12, _), (13, _), (14, _), (106, _), (107, _)] (fun x => [(108, .int .i64 (x : Int))]) (fun x => []) _ (fun x => x ≤ 8) (fun x => 8 - x) 0 (Nat.zero_le _) (hS.le (Le.cons rfl (Le.nilapp (Le.cons rfl (Le.cons rfl (Le.cons rfl (Le.cons rfl (Le.cons rfl (Le.cons rfl (Le.cons rfl (Le.cons rfl (Le.nil _)))))))))))) hR ?_
 clear hS hR; rintro i aa ww hI hS hR; dsimp only [List.cons_append, List.nil_append] at hI hS hR
 refine wp_seq_k ?_; intro K653 hK653
 refine wp_region_lit ?_
 refine sA hS hR (Yld.lss hS rfl rfl) (by decide) ?_; clear hS; intro aa hS
 refine wpList_nil ?_
 refine hK653 _ _ ?_
 refine wp_seq_k ?_; intro K654 hK654
 refine hS.splitB (t := 109) rfl ?_ ?_ <;> clear hS
 ·
  intro hg hS
  refine condT hS rfl ?_
  refine wp_skip ?_
  refine hK654 _ _ ?_
  refine wp_seq_k ?_; intro K655 hK655
  refine wp_block ?_
  refine wp_seq_k ?_; intro K656 hK656
  refine wp_region_lit ?_
  refine sA hS hR ((by first | exact Yld.indexL (sz := 1) (i) hS rfl rfl Try.underlying64 info31 pkQ rfl (by first | rfl | omega) (by omega) | exact Yld.indexB (sz := 1) (i) hS rfl rfl Try.underlying64 info31 rfl (by first | rfl | omega) (by omega))) (by decide) ?_; clear hS; intro aa hS
  refine sA hS hR (Yld.load1 hS rfl Try.underlying31 rfl (Rd.rec0 (k := i) (enc := e1) (xs := ([2, 2, 2, 2, 2, 2, 2, 2] : List Int)) (v := .int .i64 2) pkQ (by intro _; rfl) (by show i < 8; omega) (by rw [eight2 (by omega)]; rfl))) (by decide) ?_; clear hS; intro aa hS
  refine sA hS hR (Yld.assign hS rfl) (by decide) ?_; clear hS; intro aa hS
  refine wpList_nil ?_
  refine hK656 _ _ ?_
  refine wp_seq_k ?_; intro K657 hK657
  refine wp_region_lit ?_
  refine sA hS hR (Yld.move hS rfl) (by decide) ?_; clear hS; intro aa hS
  refine sA hS hR (Yld.neq hS rfl rfl) (by decide) ?_; clear hS; intro aa hS
  replace hS := hS.sayB (t := 113) false rfl (by simp)
  refine wpList_nil ?_
  refine hK657 _ _ ?_
  refine condF hS rfl ?_
  refine wp_skip ?_
  refine hK655 _ _ ?_
  refine wp_region_lit ?_
  refine sA hS hR ((by first | exact Yld.add64 hS rfl rfl (by omega) | exact Yld.add hS rfl rfl)) (by decide) ?_; clear hS; intro aa hS
  refine sA hS hR (Yld.move hS rfl) (by decide) ?_; clear hS; intro aa hS
  refine wpList_nil ?_
  
  refine ⟨i + 1, ?_, ?_, hS.le (Le.cons rfl (Le.nilapp (Le.cons rfl (Le.cons rfl (Le.cons rfl (Le.cons rfl (Le.cons rfl (Le.cons rfl (Le.cons rfl (Le.cons rfl (Le.nil _))))))))))), hR.sub (Ex.nilapp exQ)⟩
  ·
   omega
  ·
   omega
 ·
  intro hg hS
  refine condF hS rfl ?_
  refine wp_exit ?_
  refine hK650 _ _ ?_
  refine wp_seq_k ?_; intro K658 hK658
  refine wp_region_lit ?_
  refine sA hS hR (Yld.move hS rfl) (by decide) ?_; clear hS; intro aa hS
  refine sA hS hR (Yld.move hS rfl) (by decide) ?_; clear hS; intro aa hS
  refine sA hS hR (Yld.min hS rfl rfl) (by decide) ?_; clear hS; intro aa hS
  refine sB (Bcall hS rfl Try.call21 (soOf_ok (x := Min.min z (-1)) (hR.pk (r := sourceA _ b _ _ _) pkQ)) (by decide) ?_); clear hS; intro aa ww vv hS hp
  clear hR
  obtain ⟨rfl, hR⟩ := hp
  rw [hSF.off (x := Min.min z (-1)) (by omega)] at hS
  dsimp only [Option.getD, Option.isSome] at hS
  refine sA hS hR (Yld.move hS rfl) (by decide) ?_; clear hS; intro aa hS
  refine sA hS hR (Yld.extract hS rfl rfl) (by decide) ?_; clear hS; intro aa hS
  refine sA hS hR (Yld.extract hS rfl rfl) (by decide) ?_; clear hS; intro aa hS
  refine sA hS hR (Yld.assign hS rfl) (by decide) ?_; clear hS; intro aa hS
  refine sA hS hR (Yld.assign hS rfl) (by decide) ?_; clear hS; intro aa hS
  refine wpList_nil ?_
  refine hK658 _ _ ?_
  refine wp_seq_k ?_; intro K659 hK659
  refine wp_region_lit ?_
  refine sA hS hR (Yld.move hS rfl) (by decide) ?_; clear hS; intro aa hS
  refine sA hS hR (Yld.move hS rfl) (by decide) ?_; clear hS; intro aa hS
  refine sA hS hR (Yld.move hS rfl) (by decide) ?_; clear hS; intro aa hS
  refine sA hS hR (Yld.max hS rfl rfl) (by decide) ?_; clear hS; intro aa hS
  refine sB (Bcall hS rfl Try.call21 (soOf_ok (x := Max.max z (S : Int)) (hR.pk (r := sourceA _ b _ _ _) pkQ)) (by decide) ?_); clear hS; intro aa ww vv hS hp
  clear hR
  obtain ⟨rfl, hR⟩ := hp
  rw [hSF.off (x := Max.max z (S : Int)) (by omega)] at hS
  dsimp only [Option.getD, Option.isSome] at hS
  refine sA hS hR (Yld.move hS rfl) (by decide) ?_; clear hS; intro aa hS
  refine sA hS hR (Yld.extract hS rfl rfl) (by decide) ?_; clear hS; intro aa hS
  refine sA hS hR (Yld.extract hS rfl rfl) (by decide) ?_; clear hS; intro aa hS
  refine sA hS hR (Yld.assign hS rfl) (by decide) ?_; clear hS; intro aa hS
  refine sA hS hR (Yld.assign hS rfl) (by decide) ?_; clear hS; intro aa hS
  refine wpList_nil ?_
  refine hK659 _ _ ?_
  refine wp_seq_k ?_; intro K660 hK660
  refine wp_region_lit ?_
  refine sA hS hR (Yld.move hS rfl) (by decide) ?_; clear hS; intro aa hS
  refine sA hS hR (Yld.not hS rfl) (by decide) ?_; clear hS; intro aa hS
  replace hS := hS.sayB (t := 131) true rfl (by rfl)
  refine sA hS hR (Yld.move hS rfl) (by decide) ?_; clear hS; intro aa hS
  refine sAg hS hR rfl rfl (Yld.move hS rfl) (by decide) ?_; clear hS; intro aa hS
  refine sAg hS hR rfl rfl (Yld.not hS rfl) (by decide) ?_; clear hS; intro aa hS
  replace hS := hS.sayB (t := 134) true rfl (by rfl)
  refine sA hS hR (Yld.pickT hS rfl rfl) (by decide) ?_; clear hS; intro aa hS
  refine sA hS hR (Yld.move hS rfl) (by decide) ?_; clear hS; intro aa hS
  refine sAg hS hR rfl rfl (Yld.move hS rfl) (by decide) ?_; clear hS; intro aa hS
  refine sBg hS rfl rfl (Bcall hS rfl Try.call23 (soAll_ok (hR.pk (r := sourceA _ b _ _ _) pkQ)) (by decide) ?_); clear hS; intro aa ww vv hS hp
  clear hR
  obtain ⟨rb, cb, rfl, hR⟩ := hp
  refine sAg hS hR rfl rfl (Yld.move hS rfl) (by decide) ?_; clear hS; intro aa hS
  refine sBg hS rfl rfl (Bcall hS rfl Try.call27 (eqU_ok (q1 := rb) (q2 := ra) (by omega) (by omega) ((hR.pk (r := sls ra _ _ _ _ _) pkQ).pk (r := sls rb _ _ _ _ _) pkQ)) (by decide) ?_); clear hS; intro aa ww vv hS hp
  clear hR
  obtain ⟨rfl, hR⟩ := hp
  rw [decide_eq_true rfl] at hS
  refine sA hS hR (Yld.pickT hS rfl rfl) (by decide) ?_; clear hS; intro aa hS
  replace hS := hS.sayB (t := 141) true rfl (by rfl)
  refine sA hS hR (Yld.move hS rfl) (by decide) ?_; clear hS; intro aa hS
  refine sAg hS hR rfl rfl (Yld.move hS rfl) (by decide) ?_; clear hS; intro aa hS
  refine sAg hS hR rfl rfl (Yld.move hS rfl) (by decide) ?_; clear hS; intro aa hS
  refine sBg hS rfl rfl (Bcall hS rfl Try.call14 (soCount_ok (a := ad) had (hR.pk (r := sourceA _ b _ _ _) pkQ)) (by decide) ?_); clear hS; intro aa ww vv hS hp
  clear hR
  obtain ⟨rfl, hR⟩ := hp
  refine sAg hS hR rfl rfl (Yld.move hS rfl) (by decide) ?_; clear hS; intro aa hS
  refine sAg hS hR rfl rfl (Yld.eql hS rfl rfl) (by decide) ?_; clear hS; intro aa hS
  replace hS := hS.sayB (t := 147) true rfl (by simp)
  refine sA hS hR (Yld.pickT hS rfl rfl) (by decide) ?_; clear hS; intro aa hS
  refine sA hS hR (Yld.assign hS rfl) (by decide) ?_; clear hS; intro aa hS
  refine wpList_nil ?_
  refine hK660 _ _ ?_
  refine wp_ret ?_
  repeat (first | with_reducible refine thenR ?_ | with_reducible refine blockR ?_ | with_reducible refine scopeR ?_)
  refine ret1 (fn := Try.f8) (e := .ret) (.inl rfl) Try.results8 hS hR ⟨_, (.tmp rfl), ?_⟩
  exact ⟨rfl, (hR.sub exQ)⟩
end Go.Proofs.Ythjfclljjcpikaa.Sx
