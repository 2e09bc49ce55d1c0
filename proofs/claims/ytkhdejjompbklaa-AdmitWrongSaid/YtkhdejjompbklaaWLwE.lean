/-
 
-/
import Derived.Test.YtkhdejjompbklaaWLwB
import Derived.Test.YtkhdejjompbklaaWPza
namespace Go.Proofs.Ytkhdejjompbklaa.Sx
open Go
set_option maxRecDepth 20000
set_option linter.unusedVariables false
set_option linter.unusedSimpArgs false
theorem bls61_8_0_1_2_3_4_5_6_7 (x0 : Int) (x1 : Int) (x2 : Int) (x3 : Int) (x4 : Int) (x5 : Int) (x6 : Int) (x7 : Int) (w : World) : (Instr.buildSlice 61 8 [(0, .int .i64 x0), (1, .int .i64 x1), (2, .int .i64 x2), (3, .int .i64 x3), (4, .int .i64 x4), (5, .int .i64 x5), (6, .int .i64 x6), (7, .int .i64 x7)].toArray).run Try.prog w = .ok (.slice (some ⟨w.heap.size, 0, none⟩) 8 8) (w.alloc (.cells ([.int .i64 x0, .int .i64 x1, .int .i64 x2, .int .i64 x3, .int .i64 x4, .int .i64 x5, .int .i64 x6, .int .i64 x7] : List Value).toArray 37)) := by kernel_rfl
set_option maxHeartbeats 4000000 in
theorem AdmitWrong_ok {W : World} {q : Option Addr} {n c : Nat} {n0 n1 n2 n3 n4 : Int} {z a : Int} {xs : List (List Int)} (A1 : ArgS W [.u8, .u32, .i64] q n c xs) {l : List HP} {w : World} (h0 : 0 ≤ n0 ∧ n0 ≤ 255) (h1 : 0 ≤ n1 ∧ n1 ≤ 255) (h2 : 0 ≤ n2 ∧ n2 ≤ 255) (h3 : 0 ≤ n3 ∧ n3 ≤ 255) (h4 : 0 ≤ n4 ∧ n4 ≤ 255) (ha : 0 ≤ a ∧ a ≤ 4294967295) (hR : Sep (old W :: l) w) : CallR Try.prog 6 [.agg [.int .u8 n0, .int .u8 n1, .int .u8 n2, .int .u8 n3, .int .u8 n4].toArray, .slice q n c, .int .i64 z, .int .u32 a] w (fun v w' => v = .bool true ∧ Sep (old W :: l) w') := by
 refine enter Try.func6 rfl Try.ntmps6 (Nat.le_of_ble_eq_true rfl) ?_; intro aa hS
 refine wp_seq_k ?_; intro K969 hK969
 refine wp_region_lit ?_
 refine sB (Bbox hS hR rfl (by rfl) (by decide) ?_); clear hS hR; intro aa ww bb4 hS hR
 revert aa
 refine qN hR ?_
 intro aa hS
 refine wpList_nil ?_
 refine hK969 _ _ ?_
 refine wp_seq_k ?_; intro K970 hK970
 refine wp_seq_k ?_; intro K971 hK971
 refine wp_region_lit ?_
 refine sB (Bcall hS rfl Try.call8 (awake34_ok hR) (by decide) ?_); clear hS; intro aa ww vv hS hp
 clear hR
 obtain ⟨rfl, hR⟩ := hp
 refine sA hS hR (Yld.not hS rfl) (by decide) ?_; clear hS; intro aa hS
 refine wpList_nil ?_
 refine hK971 _ _ ?_
 refine condF hS rfl ?_
 refine wp_skip ?_
 refine hK970 _ _ ?_
 refine wp_seq_k ?_; intro K972 hK972
 refine wp_region_lit ?_
 refine sA hS hR (Yld.loadAgg hS rfl Try.underlying23 rfl info23 rdsQ5 (by rfl)) (by decide) ?_; clear hS; intro aa hS
 revert aa
 refine qM hR ?_
 intro aa hS
 refine sB (Bcall hS rfl Try.call9 (made_ok A1 h0 h1 h2 h3 h4 (hR.pk (r := old W) pkQ)) (by decide) ?_); clear hS; intro aa ww vv hS hp
 clear hR
 obtain ⟨b, S, lim, t, p, u, D, rfl, hSe, hle, hte, hpe, hue, hM, hR⟩ := hp
 obtain ⟨hDF, hsix, hun, hnw⟩ := hM
 have hnow := hDF.w.now
 have hol := hDF.w.olen
 have hRR := hDF.rr
 have hl1 := hDF.l1
 have hordl := Nat.le_trans hDF.w.ordLen hol
 revert aa
 refine qM hR ?_
 refine qX hR ?_
 refine qX hR ?_
 intro aa hS
 refine sB (Balloc hS hR info31 (by rfl) (by rfl) (by decide) ?_); clear hS hR; intro aa ww bb10 hS hR
 revert aa
 refine qN hR ?_
 intro aa hS
 refine sB (Bstore hS hR rfl rfl (by rfl) info31 (by rfl) pkQ (by rfl) (Nat.le_of_ble_eq_true rfl) ?_); clear hR; intro ww hR
 refine wpList_nil ?_
 refine hK972 _ _ ?_
 refine wp_seq_k ?_; intro K973 hK973
 refine wp_seq_k ?_; intro K974 hK974
 refine wp_region_lit ?_
 revert aa
 refine qM hR ?_
 refine qA hR rfl (fun _ hS => Yld.eqlNil hS rfl rfl Try.underlying27) ?_
 refine qB (t := 36) false rfl (by rfl) ?_
 intro aa hS
 refine wpList_nil ?_
 refine hK974 _ _ ?_
 refine condF hS rfl ?_
 refine wp_skip ?_
 refine hK973 _ _ ?_
 refine wp_seq_k ?_; intro K975 hK975
 refine wp_region_lit ?_
 revert aa
 refine qM hR ?_
 intro aa hS
 refine sB (Bcall hS rfl Try.call18 (adUnassured_ok (hR.pk (r := deskA _ b _ _ _ _) pkQ)) (by decide) ?_); clear hS; intro aa ww vv hS hp
 clear hR
 obtain ⟨ra, ca, rfl, hR⟩ := hp
 revert aa
 refine qM hR ?_
 intro aa hS
 refine sB (Bcall hS rfl Try.call19 (adLen_ok hDF.w (hR.pk (r := deskA _ b _ _ _ _) pkQ)) (by decide) ?_); clear hS; intro aa ww vv hS hp
 clear hR
 obtain ⟨rfl, hR⟩ := hp
 revert aa
 refine qM hR ?_
 intro aa hS
 refine sB (Bcall hS rfl Try.call13 (adNow_ok (hR.pk (r := deskA _ b _ _ _ _) pkQ)) (by decide) ?_); clear hS; intro aa ww vv hS hp
 clear hR
 obtain ⟨rfl, hR⟩ := hp
 revert aa
 refine qN hR ?_
 refine qN hR ?_
 refine qN hR ?_
 intro aa hS
 refine wpList_nil ?_
 refine hK975 _ _ ?_
 refine wp_seq_k ?_; intro K976 hK976
 refine wp_seq_k ?_; intro K977 hK977
 refine wp_region_lit ?_
 revert aa
 refine qM hR ?_
 intro aa hS
 refine wpList_nil ?_
 refine hK977 _ _ ?_
 refine wp_block ?_
 refine loopU 6 ?_
 replace hS := hS.le (T := [(2, _), (3, _), (8, _), (9, _), (10, _), (11, _), (12, _), (13, _), (43, _)]) (Le.cons rfl (Le.cons rfl (Le.cons rfl (Le.cons rfl (Le.cons rfl (Le.cons rfl (Le.cons rfl (Le.cons rfl (Le.cons rfl (Le.nil _))))))))))
 replace hS := hS.say (t := 43) (.int .i64 0) rfl (by rfl)
 refine wp_seq_k ?_; intro K978 hK978
 refine wp_region_lit ?_
 revert aa
 refine qA hR rfl (fun _ hS => Yld.lss hS rfl rfl) ?_
 refine qB (t := 44) true rfl (by decide) ?_
 intro aa hS
 refine wpList_nil ?_
 refine hK978 _ _ ?_
 refine wp_seq_k ?_; intro K979 hK979
 refine condT hS rfl ?_
 refine wp_skip ?_
 refine hK979 _ _ ?_
 refine wp_seq_k ?_; intro K980 hK980
 refine wp_block ?_
 refine wp_seq_k ?_; intro K981 hK981
 refine wp_region_lit ?_
 revert aa
 refine qM hR ?_
 refine qN hR ?_
 intro aa hS
 refine wpList_nil ?_
 refine hK981 _ _ ?_
 refine wp_seq_k ?_; intro K982 hK982
 refine wp_region_lit ?_
 refine sA hS hR (Yld.loadAgg hS rfl Try.underlying31 rfl info31 rdsQ5 (by rfl)) (by decide) ?_; clear hS; intro aa hS
 refine sB (Balloc hS hR info31 (by rfl) (by rfl) (by decide) ?_); clear hS hR; intro aa ww bb15 hS hR
 refine sB (Bstore hS hR rfl rfl (by rfl) info31 (by rfl) pkQ (by rfl) (Nat.le_of_ble_eq_true rfl) ?_); clear hR; intro ww hR
 refine wpList_nil ?_
 refine hK982 _ _ ?_
 refine wp_seq_k ?_; intro K983 hK983
 refine wp_seq_k ?_; intro K984 hK984
 refine wp_region_lit ?_
 revert aa
 refine qM hR ?_
 intro aa hS
 refine wpList_nil ?_
 refine hK984 _ _ ?_
 refine wp_block ?_
 refine wp_seq_k ?_; intro K985 hK985
 refine wp_region_lit ?_
 revert aa
 refine qA hR rfl (fun _ hS => Yld.eql hS rfl rfl) ?_
 refine qB (t := 49) true rfl (by decide) ?_
 refine qN hR ?_
 intro aa hS
 refine wpList_nil ?_
 refine hK985 _ _ ?_
 refine condT hS rfl ?_
 refine wp_region_lit ?_
 revert aa
 refine qM hR ?_
 refine qA hR rfl (fun _ hS => Yld.min hS rfl rfl) ?_
 refine qA hR rfl (fun _ hS => Yld.fieldAddr hS rfl 0 Try.underlying31 rfl rfl info3 (by decide)) ?_
 intro aa hS
 refine sB (Bstore hS hR rfl rfl (by rfl) info3 (by rfl) pkQ (by rfl) (Nat.le_of_ble_eq_true rfl) ?_); clear hR; intro ww hR
 refine wpList_nil ?_
 refine hK983 _ _ ?_
 refine wp_seq_k ?_; intro K986 hK986
 refine wp_region_lit ?_
 refine sA hS hR (Yld.loadAgg hS rfl Try.underlying31 rfl info31 rdsQ5 (by rfl)) (by decide) ?_; clear hS; intro aa hS
 refine sB (Bcall hS rfl Try.call17 (adNew_bad1 (m := Min.min z 0) (i := (lim : Int)) (by omega) hR) (by decide) ?_); clear hS; intro aa ww vv hS hp
 clear hR
 obtain ⟨rfl, hR⟩ := hp
 revert aa
 refine qM hR ?_
 refine qX hR ?_
 refine qX hR ?_
 refine qN hR ?_
 refine qN hR ?_
 intro aa hS
 refine wpList_nil ?_
 refine hK986 _ _ ?_
 refine wp_seq_k ?_; intro K987 hK987
 refine wp_region_lit ?_
 revert aa
 refine qM hR ?_
 refine qA hR rfl (fun _ hS => Yld.neq hS rfl rfl) ?_
 refine qB (t := 86) false rfl (by decide) ?_
 refine qM hR ?_
 refine qMg hR ?_
 refine qAg hR rfl rfl rfl (fun _ hS => Yld.neqNil hS rfl rfl Try.underlying27) ?_
 refine qB (t := 89) false rfl (by rfl) ?_
 refine qA hR rfl (fun _ hS => Yld.pickF hS rfl rfl) ?_
 intro aa hS
 refine wpList_nil ?_
 refine hK987 _ _ ?_
 refine condF hS rfl ?_
 refine wp_skip ?_
 refine hK980 _ _ ?_
 refine wp_region_lit ?_
 refine sA hS hR adQ (by decide) ?_; clear hS; intro aa hS
 revert aa
 refine qM hR ?_
 intro aa hS
 refine wpList_nil ?_
 refine roundU ?_
 replace hS := hS.le (T := [(2, _), (3, _), (8, _), (9, _), (10, _), (11, _), (12, _), (13, _), (14, _), (15, _), (16, _), (17, _), (43, _), (44, _), (45, _), (46, _), (47, _), (48, _), (49, _), (50, _), (51, _), (52, _), (80, _), (81, _), (82, _), (83, _), (84, _), (85, _), (86, _), (87, _), (88, _), (89, _), (90, _), (91, _)]) (Le.cons rfl (Le.cons rfl (Le.cons rfl (Le.cons rfl (Le.cons rfl (Le.cons rfl (Le.cons rfl (Le.cons rfl (Le.cons rfl (Le.cons rfl (Le.cons rfl (Le.cons rfl (Le.cons rfl (Le.cons rfl (Le.cons rfl (Le.cons rfl (Le.cons rfl (Le.cons rfl (Le.cons rfl (Le.cons rfl (Le.cons rfl (Le.cons rfl (Le.cons rfl (Le.cons rfl (Le.cons rfl (Le.cons rfl (Le.cons rfl (Le.cons rfl (Le.cons rfl (Le.cons rfl (Le.cons rfl (Le.cons rfl (Le.cons rfl (Le.cons rfl (Le.nil _)))))))))))))))))))))))))))))))))))
 replace hS := hS.say (t := 43) (.int .i64 1) rfl (by rfl)
 refine wp_seq_k ?_; intro K988 hK988
 refine wp_region_lit ?_
 revert aa
 refine qA hR rfl (fun _ hS => Yld.lss hS rfl rfl) ?_
 refine qB (t := 44) true rfl (by decide) ?_
 intro aa hS
 refine wpList_nil ?_
 refine hK988 _ _ ?_
 refine wp_seq_k ?_; intro K989 hK989
 refine condT hS rfl ?_
 refine wp_skip ?_
 refine hK989 _ _ ?_
 refine wp_seq_k ?_; intro K990 hK990
 refine wp_block ?_
 refine wp_seq_k ?_; intro K991 hK991
 refine wp_region_lit ?_
 revert aa
 refine qM hR ?_
 refine qN hR ?_
 intro aa hS
 refine wpList_nil ?_
 refine hK991 _ _ ?_
 refine wp_seq_k ?_; intro K992 hK992
 refine wp_region_lit ?_
 refine sA hS hR (Yld.loadAgg hS rfl Try.underlying31 rfl info31 rdsQ5 (by rfl)) (by decide) ?_; clear hS; intro aa hS
 refine sB (Balloc hS hR info31 (by rfl) (by rfl) (by decide) ?_); clear hS hR; intro aa ww bb15 hS hR
 refine sB (Bstore hS hR rfl rfl (by rfl) info31 (by rfl) pkQ (by rfl) (Nat.le_of_ble_eq_true rfl) ?_); clear hR; intro ww hR
 refine wpList_nil ?_
 refine hK992 _ _ ?_
 refine wp_seq_k ?_; intro K993 hK993
 refine wp_seq_k ?_; intro K994 hK994
 refine wp_region_lit ?_
 revert aa
 refine qM hR ?_
 intro aa hS
 refine wpList_nil ?_
 refine hK994 _ _ ?_
 refine wp_block ?_
 refine wp_seq_k ?_; intro K995 hK995
 refine wp_region_lit ?_
 revert aa
 refine qA hR rfl (fun _ hS => Yld.eql hS rfl rfl) ?_
 refine qB (t := 49) false rfl (by decide) ?_
 refine qN hR ?_
 intro aa hS
 refine wpList_nil ?_
 refine hK995 _ _ ?_
 refine condF hS rfl ?_
 refine wp_seq_k ?_; intro K996 hK996
 refine wp_region_lit ?_
 revert aa
 refine qA hR rfl (fun _ hS => Yld.eql hS rfl rfl) ?_
 refine qB (t := 54) true rfl (by decide) ?_
 refine qN hR ?_
 intro aa hS
 refine wpList_nil ?_
 refine hK996 _ _ ?_
 refine condT hS rfl ?_
 refine wp_region_lit ?_
 revert aa
 refine qM hR ?_
 refine qA hR rfl (fun _ hS => Yld.max hS rfl rfl) ?_
 refine qA hR rfl (fun _ hS => Yld.fieldAddr hS rfl 0 Try.underlying31 rfl rfl info3 (by decide)) ?_
 intro aa hS
 refine sB (Bstore hS hR rfl rfl (by rfl) info3 (by rfl) pkQ (by rfl) (Nat.le_of_ble_eq_true rfl) ?_); clear hR; intro ww hR
 refine wpList_nil ?_
 refine hK993 _ _ ?_
 refine wp_seq_k ?_; intro K997 hK997
 refine wp_region_lit ?_
 refine sA hS hR (Yld.loadAgg hS rfl Try.underlying31 rfl info31 rdsQ5 (by rfl)) (by decide) ?_; clear hS; intro aa hS
 refine sB (Bcall hS rfl Try.call17 (adNew_bad1 (m := Max.max z 4097) (i := (lim : Int)) (by omega) hR) (by decide) ?_); clear hS; intro aa ww vv hS hp
 clear hR
 obtain ⟨rfl, hR⟩ := hp
 revert aa
 refine qM hR ?_
 refine qX hR ?_
 refine qX hR ?_
 refine qN hR ?_
 refine qN hR ?_
 intro aa hS
 refine wpList_nil ?_
 refine hK997 _ _ ?_
 refine wp_seq_k ?_; intro K998 hK998
 refine wp_region_lit ?_
 revert aa
 refine qM hR ?_
 refine qA hR rfl (fun _ hS => Yld.neq hS rfl rfl) ?_
 refine qB (t := 86) false rfl (by decide) ?_
 refine qM hR ?_
 refine qMg hR ?_
 refine qAg hR rfl rfl rfl (fun _ hS => Yld.neqNil hS rfl rfl Try.underlying27) ?_
 refine qB (t := 89) false rfl (by rfl) ?_
 refine qA hR rfl (fun _ hS => Yld.pickF hS rfl rfl) ?_
 intro aa hS
 refine wpList_nil ?_
 refine hK998 _ _ ?_
 refine condF hS rfl ?_
 refine wp_skip ?_
 refine hK990 _ _ ?_
 refine wp_region_lit ?_
 refine sA hS hR adQ (by decide) ?_; clear hS; intro aa hS
 revert aa
 refine qM hR ?_
 intro aa hS
 refine wpList_nil ?_
 refine roundU ?_
 replace hS := hS.le (T := [(2, _), (3, _), (8, _), (9, _), (10, _), (11, _), (12, _), (13, _), (14, _), (15, _), (16, _), (17, _), (43, _), (44, _), (45, _), (46, _), (47, _), (48, _), (49, _), (50, _), (51, _), (52, _), (53, _), (54, _), (55, _), (56, _), (57, _), (80, _), (81, _), (82, _), (83, _), (84, _), (85, _), (86, _), (87, _), (88, _), (89, _), (90, _), (91, _)]) (Le.cons rfl (Le.cons rfl (Le.cons rfl (Le.cons rfl (Le.cons rfl (Le.cons rfl (Le.cons rfl (Le.cons rfl (Le.cons rfl (Le.cons rfl (Le.cons rfl (Le.cons rfl (Le.cons rfl (Le.cons rfl (Le.cons rfl (Le.cons rfl (Le.cons rfl (Le.cons rfl (Le.cons rfl (Le.cons rfl (Le.cons rfl (Le.cons rfl (Le.cons rfl (Le.cons rfl (Le.cons rfl (Le.cons rfl (Le.cons rfl (Le.cons rfl (Le.cons rfl (Le.cons rfl (Le.cons rfl (Le.cons rfl (Le.cons rfl (Le.cons rfl (Le.cons rfl (Le.cons rfl (Le.cons rfl (Le.cons rfl (Le.cons rfl (Le.nil _))))))))))))))))))))))))))))))))))))))))
 replace hS := hS.say (t := 43) (.int .i64 2) rfl (by rfl)
 refine wp_seq_k ?_; intro K999 hK999
 refine wp_region_lit ?_
 revert aa
 refine qA hR rfl (fun _ hS => Yld.lss hS rfl rfl) ?_
 refine qB (t := 44) true rfl (by decide) ?_
 intro aa hS
 refine wpList_nil ?_
 refine hK999 _ _ ?_
 refine wp_seq_k ?_; intro K1000 hK1000
 refine condT hS rfl ?_
 refine wp_skip ?_
 refine hK1000 _ _ ?_
 refine wp_seq_k ?_; intro K1001 hK1001
 refine wp_block ?_
 refine wp_seq_k ?_; intro K1002 hK1002
 refine wp_region_lit ?_
 revert aa
 refine qM hR ?_
 refine qN hR ?_
 intro aa hS
 refine wpList_nil ?_
 refine hK1002 _ _ ?_
 refine wp_seq_k ?_; intro K1003 hK1003
 refine wp_region_lit ?_
 refine sA hS hR (Yld.loadAgg hS rfl Try.underlying31 rfl info31 rdsQ5 (by rfl)) (by decide) ?_; clear hS; intro aa hS
 refine sB (Balloc hS hR info31 (by rfl) (by rfl) (by decide) ?_); clear hS hR; intro aa ww bb15 hS hR
 refine sB (Bstore hS hR rfl rfl (by rfl) info31 (by rfl) pkQ (by rfl) (Nat.le_of_ble_eq_true rfl) ?_); clear hR; intro ww hR
 refine wpList_nil ?_
 refine hK1003 _ _ ?_
 refine wp_seq_k ?_; intro K1004 hK1004
 refine wp_seq_k ?_; intro K1005 hK1005
 refine wp_region_lit ?_
 revert aa
 refine qM hR ?_
 intro aa hS
 refine wpList_nil ?_
 refine hK1005 _ _ ?_
 refine wp_block ?_
 refine wp_seq_k ?_; intro K1006 hK1006
 refine wp_region_lit ?_
 revert aa
 refine qA hR rfl (fun _ hS => Yld.eql hS rfl rfl) ?_
 refine qB (t := 49) false rfl (by decide) ?_
 refine qN hR ?_
 intro aa hS
 refine wpList_nil ?_
 refine hK1006 _ _ ?_
 refine condF hS rfl ?_
 refine wp_seq_k ?_; intro K1007 hK1007
 refine wp_region_lit ?_
 revert aa
 refine qA hR rfl (fun _ hS => Yld.eql hS rfl rfl) ?_
 refine qB (t := 54) false rfl (by decide) ?_
 refine qN hR ?_
 intro aa hS
 refine wpList_nil ?_
 refine hK1007 _ _ ?_
 refine condF hS rfl ?_
 refine wp_seq_k ?_; intro K1008 hK1008
 refine wp_region_lit ?_
 revert aa
 refine qA hR rfl (fun _ hS => Yld.eql hS rfl rfl) ?_
 refine qB (t := 59) true rfl (by decide) ?_
 refine qN hR ?_
 intro aa hS
 refine wpList_nil ?_
 refine hK1008 _ _ ?_
 refine condT hS rfl ?_
 refine wp_region_lit ?_
 revert aa
 refine qM hR ?_
 refine qA hR rfl (fun _ hS => Yld.min hS rfl rfl) ?_
 refine qA hR rfl (fun _ hS => Yld.fieldAddr hS rfl 1 Try.underlying31 rfl rfl info3 (by decide)) ?_
 intro aa hS
 refine sB (Bstore hS hR rfl rfl (by rfl) info3 (by rfl) pkQ (by rfl) (Nat.le_of_ble_eq_true rfl) ?_); clear hR; intro ww hR
 refine wpList_nil ?_
 refine hK1004 _ _ ?_
 refine wp_seq_k ?_; intro K1009 hK1009
 refine wp_region_lit ?_
 refine sA hS hR (Yld.loadAgg hS rfl Try.underlying31 rfl info31 rdsQ5 (by rfl)) (by decide) ?_; clear hS; intro aa hS
 refine sB (Bcall hS rfl Try.call17 (adNew_bad1 (m := (S : Int)) (i := Min.min z 0) (by omega) hR) (by decide) ?_); clear hS; intro aa ww vv hS hp
 clear hR
 obtain ⟨rfl, hR⟩ := hp
 revert aa
 refine qM hR ?_
 refine qX hR ?_
 refine qX hR ?_
 refine qN hR ?_
 refine qN hR ?_
 intro aa hS
 refine wpList_nil ?_
 refine hK1009 _ _ ?_
 refine wp_seq_k ?_; intro K1010 hK1010
 refine wp_region_lit ?_
 revert aa
 refine qM hR ?_
 refine qA hR rfl (fun _ hS => Yld.neq hS rfl rfl) ?_
 refine qB (t := 86) false rfl (by decide) ?_
 refine qM hR ?_
 refine qMg hR ?_
 refine qAg hR rfl rfl rfl (fun _ hS => Yld.neqNil hS rfl rfl Try.underlying27) ?_
 refine qB (t := 89) false rfl (by rfl) ?_
 refine qA hR rfl (fun _ hS => Yld.pickF hS rfl rfl) ?_
 intro aa hS
 refine wpList_nil ?_
 refine hK1010 _ _ ?_
 refine condF hS rfl ?_
 refine wp_skip ?_
 refine hK1001 _ _ ?_
 refine wp_region_lit ?_
 refine sA hS hR adQ (by decide) ?_; clear hS; intro aa hS
 revert aa
 refine qM hR ?_
 intro aa hS
 refine wpList_nil ?_
 refine roundU ?_
 replace hS := hS.le (T := [(2, _), (3, _), (8, _), (9, _), (10, _), (11, _), (12, _), (13, _), (14, _), (15, _), (16, _), (17, _), (43, _), (44, _), (45, _), (46, _), (47, _), (48, _), (49, _), (50, _), (51, _), (52, _), (53, _), (54, _), (55, _), (56, _), (57, _), (58, _), (59, _), (60, _), (61, _), (62, _), (80, _), (81, _), (82, _), (83, _), (84, _), (85, _), (86, _), (87, _), (88, _), (89, _), (90, _), (91, _)]) (Le.cons rfl (Le.cons rfl (Le.cons rfl (Le.cons rfl (Le.cons rfl (Le.cons rfl (Le.cons rfl (Le.cons rfl (Le.cons rfl (Le.cons rfl (Le.cons rfl (Le.cons rfl (Le.cons rfl (Le.cons rfl (Le.cons rfl (Le.cons rfl (Le.cons rfl (Le.cons rfl (Le.cons rfl (Le.cons rfl (Le.cons rfl (Le.cons rfl (Le.cons rfl (Le.cons rfl (Le.cons rfl (Le.cons rfl (Le.cons rfl (Le.cons rfl (Le.cons rfl (Le.cons rfl (Le.cons rfl (Le.cons rfl (Le.cons rfl (Le.cons rfl (Le.cons rfl (Le.cons rfl (Le.cons rfl (Le.cons rfl (Le.cons rfl (Le.cons rfl (Le.cons rfl (Le.cons rfl (Le.cons rfl (Le.cons rfl (Le.nil _)))))))))))))))))))))))))))))))))))))))))))))
 replace hS := hS.say (t := 43) (.int .i64 3) rfl (by rfl)
 refine wp_seq_k ?_; intro K1011 hK1011
 refine wp_region_lit ?_
 revert aa
 refine qA hR rfl (fun _ hS => Yld.lss hS rfl rfl) ?_
 refine qB (t := 44) true rfl (by decide) ?_
 intro aa hS
 refine wpList_nil ?_
 refine hK1011 _ _ ?_
 refine wp_seq_k ?_; intro K1012 hK1012
 refine condT hS rfl ?_
 refine wp_skip ?_
 refine hK1012 _ _ ?_
 refine wp_seq_k ?_; intro K1013 hK1013
 refine wp_block ?_
 refine wp_seq_k ?_; intro K1014 hK1014
 refine wp_region_lit ?_
 revert aa
 refine qM hR ?_
 refine qN hR ?_
 intro aa hS
 refine wpList_nil ?_
 refine hK1014 _ _ ?_
 refine wp_seq_k ?_; intro K1015 hK1015
 refine wp_region_lit ?_
 refine sA hS hR (Yld.loadAgg hS rfl Try.underlying31 rfl info31 rdsQ5 (by rfl)) (by decide) ?_; clear hS; intro aa hS
 refine sB (Balloc hS hR info31 (by rfl) (by rfl) (by decide) ?_); clear hS hR; intro aa ww bb15 hS hR
 refine sB (Bstore hS hR rfl rfl (by rfl) info31 (by rfl) pkQ (by rfl) (Nat.le_of_ble_eq_true rfl) ?_); clear hR; intro ww hR
 refine wpList_nil ?_
 refine hK1015 _ _ ?_
 refine wp_seq_k ?_; intro K1016 hK1016
 refine wp_seq_k ?_; intro K1017 hK1017
 refine wp_region_lit ?_
 revert aa
 refine qM hR ?_
 intro aa hS
 refine wpList_nil ?_
 refine hK1017 _ _ ?_
 refine wp_block ?_
 refine wp_seq_k ?_; intro K1018 hK1018
 refine wp_region_lit ?_
 revert aa
 refine qA hR rfl (fun _ hS => Yld.eql hS rfl rfl) ?_
 refine qB (t := 49) false rfl (by decide) ?_
 refine qN hR ?_
 intro aa hS
 refine wpList_nil ?_
 refine hK1018 _ _ ?_
 refine condF hS rfl ?_
 refine wp_seq_k ?_; intro K1019 hK1019
 refine wp_region_lit ?_
 revert aa
 refine qA hR rfl (fun _ hS => Yld.eql hS rfl rfl) ?_
 refine qB (t := 54) false rfl (by decide) ?_
 refine qN hR ?_
 intro aa hS
 refine wpList_nil ?_
 refine hK1019 _ _ ?_
 refine condF hS rfl ?_
 refine wp_seq_k ?_; intro K1020 hK1020
 refine wp_region_lit ?_
 revert aa
 refine qA hR rfl (fun _ hS => Yld.eql hS rfl rfl) ?_
 refine qB (t := 59) false rfl (by decide) ?_
 refine qN hR ?_
 intro aa hS
 refine wpList_nil ?_
 refine hK1020 _ _ ?_
 refine condF hS rfl ?_
 refine wp_seq_k ?_; intro K1021 hK1021
 refine wp_region_lit ?_
 revert aa
 refine qA hR rfl (fun _ hS => Yld.eql hS rfl rfl) ?_
 refine qB (t := 64) true rfl (by decide) ?_
 refine qN hR ?_
 intro aa hS
 refine wpList_nil ?_
 refine hK1021 _ _ ?_
 refine condT hS rfl ?_
 refine wp_region_lit ?_
 revert aa
 refine qM hR ?_
 refine qA hR rfl (fun _ hS => Yld.max hS rfl rfl) ?_
 refine qA hR rfl (fun _ hS => Yld.fieldAddr hS rfl 1 Try.underlying31 rfl rfl info3 (by decide)) ?_
 intro aa hS
 refine sB (Bstore hS hR rfl rfl (by rfl) info3 (by rfl) pkQ (by rfl) (Nat.le_of_ble_eq_true rfl) ?_); clear hR; intro ww hR
 refine wpList_nil ?_
 refine hK1016 _ _ ?_
 refine wp_seq_k ?_; intro K1022 hK1022
 refine wp_region_lit ?_
 refine sA hS hR (Yld.loadAgg hS rfl Try.underlying31 rfl info31 rdsQ5 (by rfl)) (by decide) ?_; clear hS; intro aa hS
 refine sB (Bcall hS rfl Try.call17 (adNew_bad1 (m := (S : Int)) (i := Max.max z 65) (by omega) hR) (by decide) ?_); clear hS; intro aa ww vv hS hp
 clear hR
 obtain ⟨rfl, hR⟩ := hp
 revert aa
 refine qM hR ?_
 refine qX hR ?_
 refine qX hR ?_
 refine qN hR ?_
 refine qN hR ?_
 intro aa hS
 refine wpList_nil ?_
 refine hK1022 _ _ ?_
 refine wp_seq_k ?_; intro K1023 hK1023
 refine wp_region_lit ?_
 revert aa
 refine qM hR ?_
 refine qA hR rfl (fun _ hS => Yld.neq hS rfl rfl) ?_
 refine qB (t := 86) false rfl (by decide) ?_
 refine qM hR ?_
 refine qMg hR ?_
 refine qAg hR rfl rfl rfl (fun _ hS => Yld.neqNil hS rfl rfl Try.underlying27) ?_
 refine qB (t := 89) false rfl (by rfl) ?_
 refine qA hR rfl (fun _ hS => Yld.pickF hS rfl rfl) ?_
 intro aa hS
 refine wpList_nil ?_
 refine hK1023 _ _ ?_
 refine condF hS rfl ?_
 refine wp_skip ?_
 refine hK1013 _ _ ?_
 refine wp_region_lit ?_
 refine sA hS hR adQ (by decide) ?_; clear hS; intro aa hS
 revert aa
 refine qM hR ?_
 intro aa hS
 refine wpList_nil ?_
 refine roundU ?_
 replace hS := hS.le (T := [(2, _), (3, _), (8, _), (9, _), (10, _), (11, _), (12, _), (13, _), (14, _), (15, _), (16, _), (17, _), (43, _), (44, _), (45, _), (46, _), (47, _), (48, _), (49, _), (50, _), (51, _), (52, _), (53, _), (54, _), (55, _), (56, _), (57, _), (58, _), (59, _), (60, _), (61, _), (62, _), (63, _), (64, _), (65, _), (66, _), (67, _), (80, _), (81, _), (82, _), (83, _), (84, _), (85, _), (86, _), (87, _), (88, _), (89, _), (90, _), (91, _)]) (Le.cons rfl (Le.cons rfl (Le.cons rfl (Le.cons rfl (Le.cons rfl (Le.cons rfl (Le.cons rfl (Le.cons rfl (Le.cons rfl (Le.cons rfl (Le.cons rfl (Le.cons rfl (Le.cons rfl (Le.cons rfl (Le.cons rfl (Le.cons rfl (Le.cons rfl (Le.cons rfl (Le.cons rfl (Le.cons rfl (Le.cons rfl (Le.cons rfl (Le.cons rfl (Le.cons rfl (Le.cons rfl (Le.cons rfl (Le.cons rfl (Le.cons rfl (Le.cons rfl (Le.cons rfl (Le.cons rfl (Le.cons rfl (Le.cons rfl (Le.cons rfl (Le.cons rfl (Le.cons rfl (Le.cons rfl (Le.cons rfl (Le.cons rfl (Le.cons rfl (Le.cons rfl (Le.cons rfl (Le.cons rfl (Le.cons rfl (Le.cons rfl (Le.cons rfl (Le.cons rfl (Le.cons rfl (Le.cons rfl (Le.nil _))))))))))))))))))))))))))))))))))))))))))))))))))
 replace hS := hS.say (t := 43) (.int .i64 4) rfl (by rfl)
 refine wp_seq_k ?_; intro K1024 hK1024
 refine wp_region_lit ?_
 revert aa
 refine qA hR rfl (fun _ hS => Yld.lss hS rfl rfl) ?_
 refine qB (t := 44) true rfl (by decide) ?_
 intro aa hS
 refine wpList_nil ?_
 refine hK1024 _ _ ?_
 refine wp_seq_k ?_; intro K1025 hK1025
 refine condT hS rfl ?_
 refine wp_skip ?_
 refine hK1025 _ _ ?_
 refine wp_seq_k ?_; intro K1026 hK1026
 refine wp_block ?_
 refine wp_seq_k ?_; intro K1027 hK1027
 refine wp_region_lit ?_
 revert aa
 refine qM hR ?_
 refine qN hR ?_
 intro aa hS
 refine wpList_nil ?_
 refine hK1027 _ _ ?_
 refine wp_seq_k ?_; intro K1028 hK1028
 refine wp_region_lit ?_
 refine sA hS hR (Yld.loadAgg hS rfl Try.underlying31 rfl info31 rdsQ5 (by rfl)) (by decide) ?_; clear hS; intro aa hS
 refine sB (Balloc hS hR info31 (by rfl) (by rfl) (by decide) ?_); clear hS hR; intro aa ww bb15 hS hR
 refine sB (Bstore hS hR rfl rfl (by rfl) info31 (by rfl) pkQ (by rfl) (Nat.le_of_ble_eq_true rfl) ?_); clear hR; intro ww hR
 refine wpList_nil ?_
 refine hK1028 _ _ ?_
 refine wp_seq_k ?_; intro K1029 hK1029
 refine wp_seq_k ?_; intro K1030 hK1030
 refine wp_region_lit ?_
 revert aa
 refine qM hR ?_
 intro aa hS
 refine wpList_nil ?_
 refine hK1030 _ _ ?_
 refine wp_block ?_
 refine wp_seq_k ?_; intro K1031 hK1031
 refine wp_region_lit ?_
 revert aa
 refine qA hR rfl (fun _ hS => Yld.eql hS rfl rfl) ?_
 refine qB (t := 49) false rfl (by decide) ?_
 refine qN hR ?_
 intro aa hS
 refine wpList_nil ?_
 refine hK1031 _ _ ?_
 refine condF hS rfl ?_
 refine wp_seq_k ?_; intro K1032 hK1032
 refine wp_region_lit ?_
 revert aa
 refine qA hR rfl (fun _ hS => Yld.eql hS rfl rfl) ?_
 refine qB (t := 54) false rfl (by decide) ?_
 refine qN hR ?_
 intro aa hS
 refine wpList_nil ?_
 refine hK1032 _ _ ?_
 refine condF hS rfl ?_
 refine wp_seq_k ?_; intro K1033 hK1033
 refine wp_region_lit ?_
 revert aa
 refine qA hR rfl (fun _ hS => Yld.eql hS rfl rfl) ?_
 refine qB (t := 59) false rfl (by decide) ?_
 refine qN hR ?_
 intro aa hS
 refine wpList_nil ?_
 refine hK1033 _ _ ?_
 refine condF hS rfl ?_
 refine wp_seq_k ?_; intro K1034 hK1034
 refine wp_region_lit ?_
 revert aa
 refine qA hR rfl (fun _ hS => Yld.eql hS rfl rfl) ?_
 refine qB (t := 64) false rfl (by decide) ?_
 refine qN hR ?_
 intro aa hS
 refine wpList_nil ?_
 refine hK1034 _ _ ?_
 refine condF hS rfl ?_
 refine wp_seq_k ?_; intro K1035 hK1035
 refine wp_region_lit ?_
 revert aa
 refine qA hR rfl (fun _ hS => Yld.eql hS rfl rfl) ?_
 refine qB (t := 69) true rfl (by decide) ?_
 refine qN hR ?_
 intro aa hS
 refine wpList_nil ?_
 refine hK1035 _ _ ?_
 refine condT hS rfl ?_
 refine wp_region_lit ?_
 revert aa
 refine qM hR ?_
 refine qA hR rfl (fun _ hS => Yld.min hS rfl rfl) ?_
 refine qA hR rfl (fun _ hS => Yld.fieldAddr hS rfl 2 Try.underlying31 rfl rfl info29 (by decide)) ?_
 refine qA hR rfl (fun _ hS => Yld.fieldAddr hS rfl 0 Try.underlying29 rfl rfl info3 (by decide)) ?_
 intro aa hS
 refine sB (Bstore hS hR rfl rfl (by rfl) info3 (by rfl) pkQ (by rfl) (Nat.le_of_ble_eq_true rfl) ?_); clear hR; intro ww hR
 refine wpList_nil ?_
 refine hK1029 _ _ ?_
 refine wp_seq_k ?_; intro K1036 hK1036
 refine wp_region_lit ?_
 refine sA hS hR (Yld.loadAgg hS rfl Try.underlying31 rfl info31 rdsQ5 (by rfl)) (by decide) ?_; clear hS; intro aa hS
 refine sB (Bcall hS rfl Try.call17 (adNew_bad2 (S := S) (lim := lim) (t := (Min.min z 0)) (p := p) (u := u) (by omega) (by omega) (by omega) (by omega) (by unfold RR; omega) hR) (by decide) ?_); clear hS; intro aa ww vv hS hp
 clear hR
 obtain ⟨rfl, hR⟩ := hp
 revert aa
 refine qM hR ?_
 refine qX hR ?_
 refine qX hR ?_
 refine qN hR ?_
 refine qN hR ?_
 intro aa hS
 refine wpList_nil ?_
 refine hK1036 _ _ ?_
 refine wp_seq_k ?_; intro K1037 hK1037
 refine wp_region_lit ?_
 revert aa
 refine qM hR ?_
 refine qA hR rfl (fun _ hS => Yld.neq hS rfl rfl) ?_
 refine qB (t := 86) false rfl (by decide) ?_
 refine qM hR ?_
 refine qMg hR ?_
 refine qAg hR rfl rfl rfl (fun _ hS => Yld.neqNil hS rfl rfl Try.underlying27) ?_
 refine qB (t := 89) false rfl (by rfl) ?_
 refine qA hR rfl (fun _ hS => Yld.pickF hS rfl rfl) ?_
 intro aa hS
 refine wpList_nil ?_
 refine hK1037 _ _ ?_
 refine condF hS rfl ?_
 refine wp_skip ?_
 refine hK1026 _ _ ?_
 refine wp_region_lit ?_
 refine sA hS hR adQ (by decide) ?_; clear hS; intro aa hS
 revert aa
 refine qM hR ?_
 intro aa hS
 refine wpList_nil ?_
 refine roundU ?_
 replace hS := hS.le (T := [(2, _), (3, _), (8, _), (9, _), (10, _), (11, _), (12, _), (13, _), (14, _), (15, _), (16, _), (17, _), (43, _), (44, _), (45, _), (46, _), (47, _), (48, _), (49, _), (50, _), (51, _), (52, _), (53, _), (54, _), (55, _), (56, _), (57, _), (58, _), (59, _), (60, _), (61, _), (62, _), (63, _), (64, _), (65, _), (66, _), (67, _), (68, _), (69, _), (70, _), (71, _), (72, _), (73, _), (80, _), (81, _), (82, _), (83, _), (84, _), (85, _), (86, _), (87, _), (88, _), (89, _), (90, _), (91, _)]) (Le.cons rfl (Le.cons rfl (Le.cons rfl (Le.cons rfl (Le.cons rfl (Le.cons rfl (Le.cons rfl (Le.cons rfl (Le.cons rfl (Le.cons rfl (Le.cons rfl (Le.cons rfl (Le.cons rfl (Le.cons rfl (Le.cons rfl (Le.cons rfl (Le.cons rfl (Le.cons rfl (Le.cons rfl (Le.cons rfl (Le.cons rfl (Le.cons rfl (Le.cons rfl (Le.cons rfl (Le.cons rfl (Le.cons rfl (Le.cons rfl (Le.cons rfl (Le.cons rfl (Le.cons rfl (Le.cons rfl (Le.cons rfl (Le.cons rfl (Le.cons rfl (Le.cons rfl (Le.cons rfl (Le.cons rfl (Le.cons rfl (Le.cons rfl (Le.cons rfl (Le.cons rfl (Le.cons rfl (Le.cons rfl (Le.cons rfl (Le.cons rfl (Le.cons rfl (Le.cons rfl (Le.cons rfl (Le.cons rfl (Le.cons rfl (Le.cons rfl (Le.cons rfl (Le.cons rfl (Le.cons rfl (Le.cons rfl (Le.nil _))))))))))))))))))))))))))))))))))))))))))))))))))))))))
 replace hS := hS.say (t := 43) (.int .i64 5) rfl (by rfl)
 refine wp_seq_k ?_; intro K1038 hK1038
 refine wp_region_lit ?_
 revert aa
 refine qA hR rfl (fun _ hS => Yld.lss hS rfl rfl) ?_
 refine qB (t := 44) true rfl (by decide) ?_
 intro aa hS
 refine wpList_nil ?_
 refine hK1038 _ _ ?_
 refine wp_seq_k ?_; intro K1039 hK1039
 refine condT hS rfl ?_
 refine wp_skip ?_
 refine hK1039 _ _ ?_
 refine wp_seq_k ?_; intro K1040 hK1040
 refine wp_block ?_
 refine wp_seq_k ?_; intro K1041 hK1041
 refine wp_region_lit ?_
 revert aa
 refine qM hR ?_
 refine qN hR ?_
 intro aa hS
 refine wpList_nil ?_
 refine hK1041 _ _ ?_
 refine wp_seq_k ?_; intro K1042 hK1042
 refine wp_region_lit ?_
 refine sA hS hR (Yld.loadAgg hS rfl Try.underlying31 rfl info31 rdsQ5 (by rfl)) (by decide) ?_; clear hS; intro aa hS
 refine sB (Balloc hS hR info31 (by rfl) (by rfl) (by decide) ?_); clear hS hR; intro aa ww bb15 hS hR
 refine sB (Bstore hS hR rfl rfl (by rfl) info31 (by rfl) pkQ (by rfl) (Nat.le_of_ble_eq_true rfl) ?_); clear hR; intro ww hR
 refine wpList_nil ?_
 refine hK1042 _ _ ?_
 refine wp_seq_k ?_; intro K1043 hK1043
 refine wp_seq_k ?_; intro K1044 hK1044
 refine wp_region_lit ?_
 revert aa
 refine qM hR ?_
 intro aa hS
 refine wpList_nil ?_
 refine hK1044 _ _ ?_
 refine wp_block ?_
 refine wp_seq_k ?_; intro K1045 hK1045
 refine wp_region_lit ?_
 revert aa
 refine qA hR rfl (fun _ hS => Yld.eql hS rfl rfl) ?_
 refine qB (t := 49) false rfl (by decide) ?_
 refine qN hR ?_
 intro aa hS
 refine wpList_nil ?_
 refine hK1045 _ _ ?_
 refine condF hS rfl ?_
 refine wp_seq_k ?_; intro K1046 hK1046
 refine wp_region_lit ?_
 revert aa
 refine qA hR rfl (fun _ hS => Yld.eql hS rfl rfl) ?_
 refine qB (t := 54) false rfl (by decide) ?_
 refine qN hR ?_
 intro aa hS
 refine wpList_nil ?_
 refine hK1046 _ _ ?_
 refine condF hS rfl ?_
 refine wp_seq_k ?_; intro K1047 hK1047
 refine wp_region_lit ?_
 revert aa
 refine qA hR rfl (fun _ hS => Yld.eql hS rfl rfl) ?_
 refine qB (t := 59) false rfl (by decide) ?_
 refine qN hR ?_
 intro aa hS
 refine wpList_nil ?_
 refine hK1047 _ _ ?_
 refine condF hS rfl ?_
 refine wp_seq_k ?_; intro K1048 hK1048
 refine wp_region_lit ?_
 revert aa
 refine qA hR rfl (fun _ hS => Yld.eql hS rfl rfl) ?_
 refine qB (t := 64) false rfl (by decide) ?_
 refine qN hR ?_
 intro aa hS
 refine wpList_nil ?_
 refine hK1048 _ _ ?_
 refine condF hS rfl ?_
 refine wp_seq_k ?_; intro K1049 hK1049
 refine wp_region_lit ?_
 revert aa
 refine qA hR rfl (fun _ hS => Yld.eql hS rfl rfl) ?_
 refine qB (t := 69) false rfl (by decide) ?_
 refine qN hR ?_
 intro aa hS
 refine wpList_nil ?_
 refine hK1049 _ _ ?_
 refine condF hS rfl ?_
 refine wp_seq_k ?_; intro K1050 hK1050
 refine wp_region_lit ?_
 revert aa
 refine qA hR rfl (fun _ hS => Yld.eql hS rfl rfl) ?_
 refine qB (t := 75) true rfl (by decide) ?_
 refine qN hR ?_
 intro aa hS
 refine wpList_nil ?_
 refine hK1050 _ _ ?_
 refine condT hS rfl ?_
 refine wp_region_lit ?_
 revert aa
 refine qM hR ?_
 refine qA hR rfl (fun _ hS => Yld.max hS rfl rfl) ?_
 refine qA hR rfl (fun _ hS => Yld.fieldAddr hS rfl 2 Try.underlying31 rfl rfl info29 (by decide)) ?_
 refine qA hR rfl (fun _ hS => Yld.fieldAddr hS rfl 1 Try.underlying29 rfl rfl info3 (by decide)) ?_
 intro aa hS
 refine sB (Bstore hS hR rfl rfl (by rfl) info3 (by rfl) pkQ (by rfl) (Nat.le_of_ble_eq_true rfl) ?_); clear hR; intro ww hR
 refine wpList_nil ?_
 refine hK1043 _ _ ?_
 refine wp_seq_k ?_; intro K1051 hK1051
 refine wp_region_lit ?_
 refine sA hS hR (Yld.loadAgg hS rfl Try.underlying31 rfl info31 rdsQ5 (by rfl)) (by decide) ?_; clear hS; intro aa hS
 refine sB (Bcall hS rfl Try.call17 (adNew_bad2 (S := S) (lim := lim) (t := t) (p := (Max.max z 16777216)) (u := u) (by omega) (by omega) (by omega) (by omega) (by unfold RR; omega) hR) (by decide) ?_); clear hS; intro aa ww vv hS hp
 clear hR
 obtain ⟨rfl, hR⟩ := hp
 revert aa
 refine qM hR ?_
 refine qX hR ?_
 refine qX hR ?_
 refine qN hR ?_
 refine qN hR ?_
 intro aa hS
 refine wpList_nil ?_
 refine hK1051 _ _ ?_
 refine wp_seq_k ?_; intro K1052 hK1052
 refine wp_region_lit ?_
 revert aa
 refine qM hR ?_
 refine qA hR rfl (fun _ hS => Yld.neq hS rfl rfl) ?_
 refine qB (t := 86) false rfl (by decide) ?_
 refine qM hR ?_
 refine qMg hR ?_
 refine qAg hR rfl rfl rfl (fun _ hS => Yld.neqNil hS rfl rfl Try.underlying27) ?_
 refine qB (t := 89) false rfl (by rfl) ?_
 refine qA hR rfl (fun _ hS => Yld.pickF hS rfl rfl) ?_
 intro aa hS
 refine wpList_nil ?_
 refine hK1052 _ _ ?_
 refine condF hS rfl ?_
 refine wp_skip ?_
 refine hK1040 _ _ ?_
 refine wp_region_lit ?_
 refine sA hS hR adQ (by decide) ?_; clear hS; intro aa hS
 revert aa
 refine qM hR ?_
 intro aa hS
 refine wpList_nil ?_
 refine roundU ?_
 replace hS := hS.le (T := [(2, _), (3, _), (8, _), (9, _), (10, _), (11, _), (12, _), (13, _), (14, _), (15, _), (16, _), (17, _), (43, _), (44, _), (45, _), (46, _), (47, _), (48, _), (49, _), (50, _), (51, _), (52, _), (53, _), (54, _), (55, _), (56, _), (57, _), (58, _), (59, _), (60, _), (61, _), (62, _), (63, _), (64, _), (65, _), (66, _), (67, _), (68, _), (69, _), (70, _), (71, _), (72, _), (73, _), (74, _), (75, _), (76, _), (77, _), (78, _), (79, _), (80, _), (81, _), (82, _), (83, _), (84, _), (85, _), (86, _), (87, _), (88, _), (89, _), (90, _), (91, _)]) (Le.cons rfl (Le.cons rfl (Le.cons rfl (Le.cons rfl (Le.cons rfl (Le.cons rfl (Le.cons rfl (Le.cons rfl (Le.cons rfl (Le.cons rfl (Le.cons rfl (Le.cons rfl (Le.cons rfl (Le.cons rfl (Le.cons rfl (Le.cons rfl (Le.cons rfl (Le.cons rfl (Le.cons rfl (Le.cons rfl (Le.cons rfl (Le.cons rfl (Le.cons rfl (Le.cons rfl (Le.cons rfl (Le.cons rfl (Le.cons rfl (Le.cons rfl (Le.cons rfl (Le.cons rfl (Le.cons rfl (Le.cons rfl (Le.cons rfl (Le.cons rfl (Le.cons rfl (Le.cons rfl (Le.cons rfl (Le.cons rfl (Le.cons rfl (Le.cons rfl (Le.cons rfl (Le.cons rfl (Le.cons rfl (Le.cons rfl (Le.cons rfl (Le.cons rfl (Le.cons rfl (Le.cons rfl (Le.cons rfl (Le.cons rfl (Le.cons rfl (Le.cons rfl (Le.cons rfl (Le.cons rfl (Le.cons rfl (Le.cons rfl (Le.cons rfl (Le.cons rfl (Le.cons rfl (Le.cons rfl (Le.cons rfl (Le.nil _))))))))))))))))))))))))))))))))))))))))))))))))))))))))))))))
 replace hS := hS.say (t := 43) (.int .i64 6) rfl (by rfl)
 refine wp_seq_k ?_; intro K1053 hK1053
 refine wp_region_lit ?_
 revert aa
 refine qA hR rfl (fun _ hS => Yld.lss hS rfl rfl) ?_
 refine qB (t := 44) false rfl (by decide) ?_
 intro aa hS
 refine wpList_nil ?_
 refine hK1053 _ _ ?_
 refine wp_seq_k ?_; intro K1054 hK1054
 refine condF hS rfl ?_
 refine wp_exit ?_
 refine hK976 _ _ ?_
 refine wp_seq_k ?_; intro K1055 hK1055
 refine wp_region_lit ?_
 revert aa
 refine qM hR ?_
 refine qM hR ?_
 refine qM hR ?_
 intro aa hS
 refine sA hS hR suQ (by decide) ?_; clear hS; intro aa hS
 revert aa
 refine qA hR rfl (fun _ hS => Yld.min hS rfl rfl) ?_
 refine qM hR ?_
 intro aa hS
 refine sB (Bcall hS rfl Try.call12 (adTry_bad (D := D) (n := Min.min z (D.now - 1)) (a := a) (.inl (by omega)) (hR.pk (r := deskA _ b _ _ _ _) pkQ)) (by decide) ?_); clear hS; intro aa ww vv hS hp
 clear hR
 obtain ⟨rfl, hR⟩ := hp
 revert aa
 refine qM hR ?_
 refine qX hR ?_
 refine qX hR ?_
 intro aa hS
 refine sB (Balloc hS hR info36 (by rfl) (by rfl) (by decide) ?_); clear hS hR; intro aa ww bb18 hS hR
 refine sB (Bstore hS hR rfl rfl (by rfl) info36 (by rfl) pkQ (by rfl) (Nat.le_of_ble_eq_true rfl) ?_); clear hR; intro ww hR
 revert aa
 refine qN hR ?_
 intro aa hS
 refine wpList_nil ?_
 refine hK1055 _ _ ?_
 refine wp_seq_k ?_; intro K1056 hK1056
 refine wp_region_lit ?_
 revert aa
 refine qM hR ?_
 refine qM hR ?_
 refine qA hR rfl (fun _ hS => Yld.max hS rfl rfl) ?_
 refine qM hR ?_
 intro aa hS
 refine sB (Bcall hS rfl Try.call12 (adTry_bad (D := D) (n := Max.max z 1099511627777) (a := a) (.inr (by omega)) (hR.pk (r := deskA _ b _ _ _ _) pkQ)) (by decide) ?_); clear hS; intro aa ww vv hS hp
 clear hR
 obtain ⟨rfl, hR⟩ := hp
 revert aa
 refine qM hR ?_
 refine qX hR ?_
 refine qX hR ?_
 intro aa hS
 refine sB (Balloc hS hR info36 (by rfl) (by rfl) (by decide) ?_); clear hS hR; intro aa ww bb20 hS hR
 refine sB (Bstore hS hR rfl rfl (by rfl) info36 (by rfl) pkQ (by rfl) (Nat.le_of_ble_eq_true rfl) ?_); clear hR; intro ww hR
 revert aa
 refine qN hR ?_
 intro aa hS
 refine wpList_nil ?_
 refine hK1056 _ _ ?_
 refine wp_seq_k ?_; intro K1057 hK1057
 refine wp_seq_k ?_; intro K1058 hK1058
 refine drawn krQ hR Ex.refl ?_; clear hR; intro ww hR hR0
 revert aa
 refine eA 0 rfl krQ (fun _ _ _ h => h) hR0 rfl (fun _ hS => Yld.move hS rfl) ?_
 refine eA 1 rfl krQ (fun _ _ _ h => h) hR0 rfl (fun _ hS => Yld.move hS rfl) ?_
 refine eA 2 rfl krQ (fun _ _ _ h => h) hR0 rfl (fun _ hS => Yld.move hS rfl) ?_
 refine eA 3 rfl krQ (fun _ _ _ h => h) hR0 rfl (fun _ hS => Yld.move hS rfl) ?_
 refine eA 4 rfl krQ (fun _ _ _ h => h) hR0 rfl (fun _ hS => Yld.min hS rfl rfl) ?_
 refine eA 6 rfl krQ (fun _ _ _ h => h) hR0 rfl (fun _ hS => Yld.move hS rfl) ?_
 refine eA 7 rfl krQ (fun _ _ _ h => h) hR0 rfl (fun _ hS => Yld.move hS rfl) ?_
 refine eA 8 rfl krQ (fun _ _ _ h => h) hR0 rfl (fun _ hS => Yld.fieldAddr hS rfl 0 Try.underlying31 rfl rfl info3 (by decide)) ?_
 refine eA 9 rfl krQ (fun _ _ _ h => h) hR0 rfl (fun _ hS => Yld.load1 hS rfl Try.underlying3 rfl rdQ) ?_
 refine eA 10 rfl krQ (fun _ _ _ h => h) hR0 rfl (fun _ hS => Yld.max hS rfl rfl) ?_
 refine eA 12 rfl krQ (fun _ _ _ h => h) hR0 rfl (fun _ hS => Yld.move hS rfl) ?_
 refine eA 13 rfl krQ (fun _ _ _ h => h) hR0 rfl (fun _ hS => Yld.move hS rfl) ?_
 refine eA 14 rfl krQ (fun _ _ _ h => h) hR0 rfl (fun _ hS => Yld.min hS rfl rfl) ?_
 refine eA 16 rfl krQ (fun _ _ _ h => h) hR0 rfl (fun _ hS => Yld.move hS rfl) ?_
 refine eA 17 rfl krQ (fun _ _ _ h => h) hR0 rfl (fun _ hS => Yld.move hS rfl) ?_
 refine eA 18 rfl krQ (fun _ _ _ h => h) hR0 rfl (fun _ hS => Yld.fieldAddr hS rfl 0 Try.underlying31 rfl rfl info3 (by decide)) ?_
 refine eA 19 rfl krQ (fun _ _ _ h => h) hR0 rfl (fun _ hS => Yld.load1 hS rfl Try.underlying3 rfl rdQ) ?_
 refine eA 20 rfl krQ (fun _ _ _ h => h) hR0 rfl (fun _ hS => Yld.max hS rfl rfl) ?_
 refine eA 22 rfl krQ (fun _ _ _ h => h) hR0 rfl (fun _ hS => Yld.move hS rfl) ?_
 refine eA 23 rfl krQ (fun _ _ _ h => h) hR0 rfl (fun _ hS => Yld.move hS rfl) ?_
 refine eA 24 rfl krQ (fun _ _ _ h => h) hR0 rfl (fun _ hS => Yld.min hS rfl rfl) ?_
 refine eA 26 rfl krQ (fun _ _ _ h => h) hR0 rfl (fun _ hS => Yld.move hS rfl) ?_
 refine eA 27 rfl krQ (fun _ _ _ h => h) hR0 rfl (fun _ hS => Yld.move hS rfl) ?_
 refine eA 28 rfl krQ (fun _ _ _ h => h) hR0 rfl (fun _ hS => Yld.fieldAddr hS rfl 0 Try.underlying31 rfl rfl info3 (by decide)) ?_
 refine eA 29 rfl krQ (fun _ _ _ h => h) hR0 rfl (fun _ hS => Yld.load1 hS rfl Try.underlying3 rfl rdQ) ?_
 refine eA 30 rfl krQ (fun _ _ _ h => h) hR0 rfl (fun _ hS => Yld.max hS rfl rfl) ?_
 refine eA 34 rfl krQ (fun _ _ _ h => h) hR0 rfl (fun _ hS => Yld.move hS rfl) ?_
 intro aa hS
 refine dOne (i := 5) krQ ?_
 refine dop rfl (Bcall hS rfl Try.call25 (adSee_bad (x := Min.min z (-1)) hDF.w (by rw [(hDF.w.sf.cls_bad (x := Min.min z (-1)) (by omega)).1]; decide) (hR.pk (r := deskA _ b _ _ _ _) pkQ)) (by decide) ?_); clear hS; intro aa ww vv hS hp
 clear hR hR0
 obtain ⟨rfl, hR⟩ := hp
 rw [(hDF.w.sf.cls_bad (x := Min.min z (-1)) (by omega)).1] at hS
 refine dnext (hR.sub exQ) ?_; intro hR0
 refine dOne (i := 11) krQ ?_
 refine dop rfl (Bcall hS rfl Try.call25 (adSee_bad (x := Max.max z (S : Int)) hDF.w (by rw [(hDF.w.sf.cls_bad (x := Max.max z (S : Int)) (by omega)).1]; decide) (hR.pk (r := deskA _ b _ _ _ _) pkQ)) (by decide) ?_); clear hS; intro aa ww vv hS hp
 clear hR hR0
 obtain ⟨rfl, hR⟩ := hp
 rw [(hDF.w.sf.cls_bad (x := Max.max z (S : Int)) (by omega)).1] at hS
 refine dnext (hR.sub exQ) ?_; intro hR0
 refine dOne (i := 15) krQ ?_
 refine dop rfl (Bcall hS rfl Try.call22 (adAss_bad (x := Min.min z (-1)) hDF.w (by rw [(hDF.w.sf.cls_bad (x := Min.min z (-1)) (by omega)).1]; decide) (hR.pk (r := deskA _ b _ _ _ _) pkQ)) (by decide) ?_); clear hS; intro aa ww vv hS hp
 clear hR hR0
 obtain ⟨rfl, hR⟩ := hp
 rw [(hDF.w.sf.cls_bad (x := Min.min z (-1)) (by omega)).1] at hS
 refine dnext (hR.sub exQ) ?_; intro hR0
 refine dOne (i := 21) krQ ?_
 refine dop rfl (Bcall hS rfl Try.call22 (adAss_bad (x := Max.max z (S : Int)) hDF.w (by rw [(hDF.w.sf.cls_bad (x := Max.max z (S : Int)) (by omega)).1]; decide) (hR.pk (r := deskA _ b _ _ _ _) pkQ)) (by decide) ?_); clear hS; intro aa ww vv hS hp
 clear hR hR0
 obtain ⟨rfl, hR⟩ := hp
 rw [(hDF.w.sf.cls_bad (x := Max.max z (S : Int)) (by omega)).1] at hS
 refine dnext (hR.sub exQ) ?_; intro hR0
 refine dOne (i := 25) krQ ?_
 refine dop rfl (Bcall hS rfl Try.call15 (adClo_bad (x := Min.min z (-1)) hDF.w (by rw [(hDF.w.sf.cls_bad (x := Min.min z (-1)) (by omega)).1]; decide) (hR.pk (r := deskA _ b _ _ _ _) pkQ)) (by decide) ?_); clear hS; intro aa ww vv hS hp
 clear hR hR0
 obtain ⟨rfl, hR⟩ := hp
 rw [(hDF.w.sf.cls_bad (x := Min.min z (-1)) (by omega)).1] at hS
 refine dnext (hR.sub exQ) ?_; intro hR0
 refine dOne (i := 31) krQ ?_
 refine dop rfl (Bcall hS rfl Try.call15 (adClo_bad (x := Max.max z (S : Int)) hDF.w (by rw [(hDF.w.sf.cls_bad (x := Max.max z (S : Int)) (by omega)).1]; decide) (hR.pk (r := deskA _ b _ _ _ _) pkQ)) (by decide) ?_); clear hS; intro aa ww vv hS hp
 clear hR hR0
 obtain ⟨rfl, hR⟩ := hp
 rw [(hDF.w.sf.cls_bad (x := Max.max z (S : Int)) (by omega)).1] at hS
 refine dnext (hR.sub exQ) ?_; intro hR0
 refine dOne (i := 32) krQ ?_
 refine dop rfl (BbuildSlice hS hR rfl (bls61_8_0_1_2_3_4_5_6_7 _ _ _ _ _ _ _ _) (by decide) ?_); clear hS hR hR0; intro aa ww bb142 hS hR
 refine dnext (hR.sub exQ) ?_; intro hR0
 revert aa
 refine eA 33 rfl krQ (fun _ _ _ h => h) hR0 rfl (fun _ hS => Yld.len hS rfl Try.underlying61) ?_
 intro aa hS
 refine wpAnyH_done krQ ?_ _; clear hR0
 refine hK1058 _ _ ?_
 refine wp_block ?_
 refine loopU 8 ?_
 replace hS := hS.le (T := [(8, _), (9, _), (10, _), (11, _), (12, _), (13, _), (142, _), (143, _), (144, _)]) (Le.cons rfl (Le.cons rfl (Le.cons rfl (Le.cons rfl (Le.cons rfl (Le.cons rfl (Le.cons rfl (Le.cons rfl (Le.cons rfl (Le.nil _))))))))))
 replace hS := hS.say (t := 144) (.int .i64 0) rfl (by rfl)
 refine wp_seq_k ?_; intro K1059 hK1059
 refine wp_region_lit ?_
 revert aa
 refine qA hR rfl (fun _ hS => Yld.lss hS rfl rfl) ?_
 refine qB (t := 145) true rfl (by decide) ?_
 intro aa hS
 refine wpList_nil ?_
 refine hK1059 _ _ ?_
 refine wp_seq_k ?_; intro K1060 hK1060
 refine condT hS rfl ?_
 refine wp_skip ?_
 refine hK1060 _ _ ?_
 refine wp_seq_k ?_; intro K1061 hK1061
 refine wp_block ?_
 refine wp_seq_k ?_; intro K1062 hK1062
 refine wp_region_lit ?_
 refine sA hS hR ((by first | exact Yld.indexL (sz := 1) _ hS rfl rfl Try.underlying61 info37 pkQ rfl rfl (by omega) | exact Yld.indexB (sz := 1) _ hS rfl rfl Try.underlying61 info37 rfl rfl (by omega) | exact Yld.indexSlice hS rfl rfl Try.underlying61 info37 (by omega) (by omega))) (by decide) ?_; clear hS; intro aa hS
 refine sA hS hR (Yld.load1 hS rfl Try.underlying37 rfl rdQ) (by decide) ?_; clear hS; intro aa hS
 revert aa
 refine qN hR ?_
 intro aa hS
 refine wpList_nil ?_
 refine hK1062 _ _ ?_
 refine wp_seq_k ?_; intro K1063 hK1063
 refine wp_region_lit ?_
 revert aa
 refine qM hR ?_
 refine qA hR rfl (fun _ hS => Yld.neq hS rfl rfl) ?_
 refine qB (t := 149) false rfl (by decide) ?_
 intro aa hS
 refine wpList_nil ?_
 refine hK1063 _ _ ?_
 refine condF hS rfl ?_
 refine wp_skip ?_
 refine hK1061 _ _ ?_
 refine wp_region_lit ?_
 refine sA hS hR adQ (by decide) ?_; clear hS; intro aa hS
 revert aa
 refine qM hR ?_
 intro aa hS
 refine wpList_nil ?_
 refine roundU ?_
 replace hS := hS.le (T := [(8, _), (9, _), (10, _), (11, _), (12, _), (13, _), (23, _), (142, _), (143, _), (144, _), (145, _), (146, _), (147, _), (148, _), (149, _), (150, _)]) (Le.cons rfl (Le.cons rfl (Le.cons rfl (Le.cons rfl (Le.cons rfl (Le.cons rfl (Le.cons rfl (Le.cons rfl (Le.cons rfl (Le.cons rfl (Le.cons rfl (Le.cons rfl (Le.cons rfl (Le.cons rfl (Le.cons rfl (Le.cons rfl (Le.nil _)))))))))))))))))
 replace hS := hS.say (t := 144) (.int .i64 1) rfl (by rfl)
 refine wp_seq_k ?_; intro K1064 hK1064
 refine wp_region_lit ?_
 revert aa
 refine qA hR rfl (fun _ hS => Yld.lss hS rfl rfl) ?_
 refine qB (t := 145) true rfl (by decide) ?_
 intro aa hS
 refine wpList_nil ?_
 refine hK1064 _ _ ?_
 refine wp_seq_k ?_; intro K1065 hK1065
 refine condT hS rfl ?_
 refine wp_skip ?_
 refine hK1065 _ _ ?_
 refine wp_seq_k ?_; intro K1066 hK1066
 refine wp_block ?_
 refine wp_seq_k ?_; intro K1067 hK1067
 refine wp_region_lit ?_
 refine sA hS hR ((by first | exact Yld.indexL (sz := 1) _ hS rfl rfl Try.underlying61 info37 pkQ rfl rfl (by omega) | exact Yld.indexB (sz := 1) _ hS rfl rfl Try.underlying61 info37 rfl rfl (by omega) | exact Yld.indexSlice hS rfl rfl Try.underlying61 info37 (by omega) (by omega))) (by decide) ?_; clear hS; intro aa hS
 refine sA hS hR (Yld.load1 hS rfl Try.underlying37 rfl rdQ) (by decide) ?_; clear hS; intro aa hS
 revert aa
 refine qN hR ?_
 intro aa hS
 refine wpList_nil ?_
 refine hK1067 _ _ ?_
 refine wp_seq_k ?_; intro K1068 hK1068
 refine wp_region_lit ?_
 revert aa
 refine qM hR ?_
 refine qA hR rfl (fun _ hS => Yld.neq hS rfl rfl) ?_
 refine qB (t := 149) false rfl (by decide) ?_
 intro aa hS
 refine wpList_nil ?_
 refine hK1068 _ _ ?_
 refine condF hS rfl ?_
 refine wp_skip ?_
 refine hK1066 _ _ ?_
 refine wp_region_lit ?_
 refine sA hS hR adQ (by decide) ?_; clear hS; intro aa hS
 revert aa
 refine qM hR ?_
 intro aa hS
 refine wpList_nil ?_
 refine roundU ?_
 replace hS := hS.le (T := [(8, _), (9, _), (10, _), (11, _), (12, _), (13, _), (23, _), (142, _), (143, _), (144, _), (145, _), (146, _), (147, _), (148, _), (149, _), (150, _)]) (Le.cons rfl (Le.cons rfl (Le.cons rfl (Le.cons rfl (Le.cons rfl (Le.cons rfl (Le.cons rfl (Le.cons rfl (Le.cons rfl (Le.cons rfl (Le.cons rfl (Le.cons rfl (Le.cons rfl (Le.cons rfl (Le.cons rfl (Le.cons rfl (Le.nil _)))))))))))))))))
 replace hS := hS.say (t := 144) (.int .i64 2) rfl (by rfl)
 refine wp_seq_k ?_; intro K1069 hK1069
 refine wp_region_lit ?_
 revert aa
 refine qA hR rfl (fun _ hS => Yld.lss hS rfl rfl) ?_
 refine qB (t := 145) true rfl (by decide) ?_
 intro aa hS
 refine wpList_nil ?_
 refine hK1069 _ _ ?_
 refine wp_seq_k ?_; intro K1070 hK1070
 refine condT hS rfl ?_
 refine wp_skip ?_
 refine hK1070 _ _ ?_
 refine wp_seq_k ?_; intro K1071 hK1071
 refine wp_block ?_
 refine wp_seq_k ?_; intro K1072 hK1072
 refine wp_region_lit ?_
 refine sA hS hR ((by first | exact Yld.indexL (sz := 1) _ hS rfl rfl Try.underlying61 info37 pkQ rfl rfl (by omega) | exact Yld.indexB (sz := 1) _ hS rfl rfl Try.underlying61 info37 rfl rfl (by omega) | exact Yld.indexSlice hS rfl rfl Try.underlying61 info37 (by omega) (by omega))) (by decide) ?_; clear hS; intro aa hS
 refine sA hS hR (Yld.load1 hS rfl Try.underlying37 rfl rdQ) (by decide) ?_; clear hS; intro aa hS
 revert aa
 refine qN hR ?_
 intro aa hS
 refine wpList_nil ?_
 refine hK1072 _ _ ?_
 refine wp_seq_k ?_; intro K1073 hK1073
 refine wp_region_lit ?_
 revert aa
 refine qM hR ?_
 refine qA hR rfl (fun _ hS => Yld.neq hS rfl rfl) ?_
 refine qB (t := 149) false rfl (by decide) ?_
 intro aa hS
 refine wpList_nil ?_
 refine hK1073 _ _ ?_
 refine condF hS rfl ?_
 refine wp_skip ?_
 refine hK1071 _ _ ?_
 refine wp_region_lit ?_
 refine sA hS hR adQ (by decide) ?_; clear hS; intro aa hS
 revert aa
 refine qM hR ?_
 intro aa hS
 refine wpList_nil ?_
 refine roundU ?_
 replace hS := hS.le (T := [(8, _), (9, _), (10, _), (11, _), (12, _), (13, _), (23, _), (142, _), (143, _), (144, _), (145, _), (146, _), (147, _), (148, _), (149, _), (150, _)]) (Le.cons rfl (Le.cons rfl (Le.cons rfl (Le.cons rfl (Le.cons rfl (Le.cons rfl (Le.cons rfl (Le.cons rfl (Le.cons rfl (Le.cons rfl (Le.cons rfl (Le.cons rfl (Le.cons rfl (Le.cons rfl (Le.cons rfl (Le.cons rfl (Le.nil _)))))))))))))))))
 replace hS := hS.say (t := 144) (.int .i64 3) rfl (by rfl)
 refine wp_seq_k ?_; intro K1074 hK1074
 refine wp_region_lit ?_
 revert aa
 refine qA hR rfl (fun _ hS => Yld.lss hS rfl rfl) ?_
 refine qB (t := 145) true rfl (by decide) ?_
 intro aa hS
 refine wpList_nil ?_
 refine hK1074 _ _ ?_
 refine wp_seq_k ?_; intro K1075 hK1075
 refine condT hS rfl ?_
 refine wp_skip ?_
 refine hK1075 _ _ ?_
 refine wp_seq_k ?_; intro K1076 hK1076
 refine wp_block ?_
 refine wp_seq_k ?_; intro K1077 hK1077
 refine wp_region_lit ?_
 refine sA hS hR ((by first | exact Yld.indexL (sz := 1) _ hS rfl rfl Try.underlying61 info37 pkQ rfl rfl (by omega) | exact Yld.indexB (sz := 1) _ hS rfl rfl Try.underlying61 info37 rfl rfl (by omega) | exact Yld.indexSlice hS rfl rfl Try.underlying61 info37 (by omega) (by omega))) (by decide) ?_; clear hS; intro aa hS
 refine sA hS hR (Yld.load1 hS rfl Try.underlying37 rfl rdQ) (by decide) ?_; clear hS; intro aa hS
 revert aa
 refine qN hR ?_
 intro aa hS
 refine wpList_nil ?_
 refine hK1077 _ _ ?_
 refine wp_seq_k ?_; intro K1078 hK1078
 refine wp_region_lit ?_
 revert aa
 refine qM hR ?_
 refine qA hR rfl (fun _ hS => Yld.neq hS rfl rfl) ?_
 refine qB (t := 149) false rfl (by decide) ?_
 intro aa hS
 refine wpList_nil ?_
 refine hK1078 _ _ ?_
 refine condF hS rfl ?_
 refine wp_skip ?_
 refine hK1076 _ _ ?_
 refine wp_region_lit ?_
 refine sA hS hR adQ (by decide) ?_; clear hS; intro aa hS
 revert aa
 refine qM hR ?_
 intro aa hS
 refine wpList_nil ?_
 refine roundU ?_
 replace hS := hS.le (T := [(8, _), (9, _), (10, _), (11, _), (12, _), (13, _), (23, _), (142, _), (143, _), (144, _), (145, _), (146, _), (147, _), (148, _), (149, _), (150, _)]) (Le.cons rfl (Le.cons rfl (Le.cons rfl (Le.cons rfl (Le.cons rfl (Le.cons rfl (Le.cons rfl (Le.cons rfl (Le.cons rfl (Le.cons rfl (Le.cons rfl (Le.cons rfl (Le.cons rfl (Le.cons rfl (Le.cons rfl (Le.cons rfl (Le.nil _)))))))))))))))))
 replace hS := hS.say (t := 144) (.int .i64 4) rfl (by rfl)
 refine wp_seq_k ?_; intro K1079 hK1079
 refine wp_region_lit ?_
 revert aa
 refine qA hR rfl (fun _ hS => Yld.lss hS rfl rfl) ?_
 refine qB (t := 145) true rfl (by decide) ?_
 intro aa hS
 refine wpList_nil ?_
 refine hK1079 _ _ ?_
 refine wp_seq_k ?_; intro K1080 hK1080
 refine condT hS rfl ?_
 refine wp_skip ?_
 refine hK1080 _ _ ?_
 refine wp_seq_k ?_; intro K1081 hK1081
 refine wp_block ?_
 refine wp_seq_k ?_; intro K1082 hK1082
 refine wp_region_lit ?_
 refine sA hS hR ((by first | exact Yld.indexL (sz := 1) _ hS rfl rfl Try.underlying61 info37 pkQ rfl rfl (by omega) | exact Yld.indexB (sz := 1) _ hS rfl rfl Try.underlying61 info37 rfl rfl (by omega) | exact Yld.indexSlice hS rfl rfl Try.underlying61 info37 (by omega) (by omega))) (by decide) ?_; clear hS; intro aa hS
 refine sA hS hR (Yld.load1 hS rfl Try.underlying37 rfl rdQ) (by decide) ?_; clear hS; intro aa hS
 revert aa
 refine qN hR ?_
 intro aa hS
 refine wpList_nil ?_
 refine hK1082 _ _ ?_
 refine wp_seq_k ?_; intro K1083 hK1083
 refine wp_region_lit ?_
 revert aa
 refine qM hR ?_
 refine qA hR rfl (fun _ hS => Yld.neq hS rfl rfl) ?_
 refine qB (t := 149) false rfl (by decide) ?_
 intro aa hS
 refine wpList_nil ?_
 refine hK1083 _ _ ?_
 refine condF hS rfl ?_
 refine wp_skip ?_
 refine hK1081 _ _ ?_
 refine wp_region_lit ?_
 refine sA hS hR adQ (by decide) ?_; clear hS; intro aa hS
 revert aa
 refine qM hR ?_
 intro aa hS
 refine wpList_nil ?_
 refine roundU ?_
 replace hS := hS.le (T := [(8, _), (9, _), (10, _), (11, _), (12, _), (13, _), (23, _), (142, _), (143, _), (144, _), (145, _), (146, _), (147, _), (148, _), (149, _), (150, _)]) (Le.cons rfl (Le.cons rfl (Le.cons rfl (Le.cons rfl (Le.cons rfl (Le.cons rfl (Le.cons rfl (Le.cons rfl (Le.cons rfl (Le.cons rfl (Le.cons rfl (Le.cons rfl (Le.cons rfl (Le.cons rfl (Le.cons rfl (Le.cons rfl (Le.nil _)))))))))))))))))
 replace hS := hS.say (t := 144) (.int .i64 5) rfl (by rfl)
 refine wp_seq_k ?_; intro K1084 hK1084
 refine wp_region_lit ?_
 revert aa
 refine qA hR rfl (fun _ hS => Yld.lss hS rfl rfl) ?_
 refine qB (t := 145) true rfl (by decide) ?_
 intro aa hS
 refine wpList_nil ?_
 refine hK1084 _ _ ?_
 refine wp_seq_k ?_; intro K1085 hK1085
 refine condT hS rfl ?_
 refine wp_skip ?_
 refine hK1085 _ _ ?_
 refine wp_seq_k ?_; intro K1086 hK1086
 refine wp_block ?_
 refine wp_seq_k ?_; intro K1087 hK1087
 refine wp_region_lit ?_
 refine sA hS hR ((by first | exact Yld.indexL (sz := 1) _ hS rfl rfl Try.underlying61 info37 pkQ rfl rfl (by omega) | exact Yld.indexB (sz := 1) _ hS rfl rfl Try.underlying61 info37 rfl rfl (by omega) | exact Yld.indexSlice hS rfl rfl Try.underlying61 info37 (by omega) (by omega))) (by decide) ?_; clear hS; intro aa hS
 refine sA hS hR (Yld.load1 hS rfl Try.underlying37 rfl rdQ) (by decide) ?_; clear hS; intro aa hS
 revert aa
 refine qN hR ?_
 intro aa hS
 refine wpList_nil ?_
 refine hK1087 _ _ ?_
 refine wp_seq_k ?_; intro K1088 hK1088
 refine wp_region_lit ?_
 revert aa
 refine qM hR ?_
 refine qA hR rfl (fun _ hS => Yld.neq hS rfl rfl) ?_
 refine qB (t := 149) false rfl (by decide) ?_
 intro aa hS
 refine wpList_nil ?_
 refine hK1088 _ _ ?_
 refine condF hS rfl ?_
 refine wp_skip ?_
 refine hK1086 _ _ ?_
 refine wp_region_lit ?_
 refine sA hS hR adQ (by decide) ?_; clear hS; intro aa hS
 revert aa
 refine qM hR ?_
 intro aa hS
 refine wpList_nil ?_
 refine roundU ?_
 replace hS := hS.le (T := [(8, _), (9, _), (10, _), (11, _), (12, _), (13, _), (23, _), (142, _), (143, _), (144, _), (145, _), (146, _), (147, _), (148, _), (149, _), (150, _)]) (Le.cons rfl (Le.cons rfl (Le.cons rfl (Le.cons rfl (Le.cons rfl (Le.cons rfl (Le.cons rfl (Le.cons rfl (Le.cons rfl (Le.cons rfl (Le.cons rfl (Le.cons rfl (Le.cons rfl (Le.cons rfl (Le.cons rfl (Le.cons rfl (Le.nil _)))))))))))))))))
 replace hS := hS.say (t := 144) (.int .i64 6) rfl (by rfl)
 refine wp_seq_k ?_; intro K1089 hK1089
 refine wp_region_lit ?_
 revert aa
 refine qA hR rfl (fun _ hS => Yld.lss hS rfl rfl) ?_
 refine qB (t := 145) true rfl (by decide) ?_
 intro aa hS
 refine wpList_nil ?_
 refine hK1089 _ _ ?_
 refine wp_seq_k ?_; intro K1090 hK1090
 refine condT hS rfl ?_
 refine wp_skip ?_
 refine hK1090 _ _ ?_
 refine wp_seq_k ?_; intro K1091 hK1091
 refine wp_block ?_
 refine wp_seq_k ?_; intro K1092 hK1092
 refine wp_region_lit ?_
 refine sA hS hR ((by first | exact Yld.indexL (sz := 1) _ hS rfl rfl Try.underlying61 info37 pkQ rfl rfl (by omega) | exact Yld.indexB (sz := 1) _ hS rfl rfl Try.underlying61 info37 rfl rfl (by omega) | exact Yld.indexSlice hS rfl rfl Try.underlying61 info37 (by omega) (by omega))) (by decide) ?_; clear hS; intro aa hS
 refine sA hS hR (Yld.load1 hS rfl Try.underlying37 rfl rdQ) (by decide) ?_; clear hS; intro aa hS
 revert aa
 refine qN hR ?_
 intro aa hS
 refine wpList_nil ?_
 refine hK1092 _ _ ?_
 refine wp_seq_k ?_; intro K1093 hK1093
 refine wp_region_lit ?_
 revert aa
 refine qM hR ?_
 refine qA hR rfl (fun _ hS => Yld.neq hS rfl rfl) ?_
 refine qB (t := 149) false rfl (by decide) ?_
 intro aa hS
 refine wpList_nil ?_
 refine hK1093 _ _ ?_
 refine condF hS rfl ?_
 refine wp_skip ?_
 refine hK1091 _ _ ?_
 refine wp_region_lit ?_
 refine sA hS hR adQ (by decide) ?_; clear hS; intro aa hS
 revert aa
 refine qM hR ?_
 intro aa hS
 refine wpList_nil ?_
 refine roundU ?_
 replace hS := hS.le (T := [(8, _), (9, _), (10, _), (11, _), (12, _), (13, _), (23, _), (142, _), (143, _), (144, _), (145, _), (146, _), (147, _), (148, _), (149, _), (150, _)]) (Le.cons rfl (Le.cons rfl (Le.cons rfl (Le.cons rfl (Le.cons rfl (Le.cons rfl (Le.cons rfl (Le.cons rfl (Le.cons rfl (Le.cons rfl (Le.cons rfl (Le.cons rfl (Le.cons rfl (Le.cons rfl (Le.cons rfl (Le.cons rfl (Le.nil _)))))))))))))))))
 replace hS := hS.say (t := 144) (.int .i64 7) rfl (by rfl)
 refine wp_seq_k ?_; intro K1094 hK1094
 refine wp_region_lit ?_
 revert aa
 refine qA hR rfl (fun _ hS => Yld.lss hS rfl rfl) ?_
 refine qB (t := 145) true rfl (by decide) ?_
 intro aa hS
 refine wpList_nil ?_
 refine hK1094 _ _ ?_
 refine wp_seq_k ?_; intro K1095 hK1095
 refine condT hS rfl ?_
 refine wp_skip ?_
 refine hK1095 _ _ ?_
 refine wp_seq_k ?_; intro K1096 hK1096
 refine wp_block ?_
 refine wp_seq_k ?_; intro K1097 hK1097
 refine wp_region_lit ?_
 refine sA hS hR ((by first | exact Yld.indexL (sz := 1) _ hS rfl rfl Try.underlying61 info37 pkQ rfl rfl (by omega) | exact Yld.indexB (sz := 1) _ hS rfl rfl Try.underlying61 info37 rfl rfl (by omega) | exact Yld.indexSlice hS rfl rfl Try.underlying61 info37 (by omega) (by omega))) (by decide) ?_; clear hS; intro aa hS
 refine sA hS hR (Yld.load1 hS rfl Try.underlying37 rfl rdQ) (by decide) ?_; clear hS; intro aa hS
 revert aa
 refine qN hR ?_
 intro aa hS
 refine wpList_nil ?_
 refine hK1097 _ _ ?_
 refine wp_seq_k ?_; intro K1098 hK1098
 refine wp_region_lit ?_
 revert aa
 refine qM hR ?_
 refine qA hR rfl (fun _ hS => Yld.neq hS rfl rfl) ?_
 refine qB (t := 149) false rfl (by decide) ?_
 intro aa hS
 refine wpList_nil ?_
 refine hK1098 _ _ ?_
 refine condF hS rfl ?_
 refine wp_skip ?_
 refine hK1096 _ _ ?_
 refine wp_region_lit ?_
 refine sA hS hR adQ (by decide) ?_; clear hS; intro aa hS
 revert aa
 refine qM hR ?_
 intro aa hS
 refine wpList_nil ?_
 refine roundU ?_
 replace hS := hS.le (T := [(8, _), (9, _), (10, _), (11, _), (12, _), (13, _), (23, _), (142, _), (143, _), (144, _), (145, _), (146, _), (147, _), (148, _), (149, _), (150, _)]) (Le.cons rfl (Le.cons rfl (Le.cons rfl (Le.cons rfl (Le.cons rfl (Le.cons rfl (Le.cons rfl (Le.cons rfl (Le.cons rfl (Le.cons rfl (Le.cons rfl (Le.cons rfl (Le.cons rfl (Le.cons rfl (Le.cons rfl (Le.cons rfl (Le.nil _)))))))))))))))))
 replace hS := hS.say (t := 144) (.int .i64 8) rfl (by rfl)
 refine wp_seq_k ?_; intro K1099 hK1099
 refine wp_region_lit ?_
 revert aa
 refine qA hR rfl (fun _ hS => Yld.lss hS rfl rfl) ?_
 refine qB (t := 145) false rfl (by decide) ?_
 intro aa hS
 refine wpList_nil ?_
 refine hK1099 _ _ ?_
 refine wp_seq_k ?_; intro K1100 hK1100
 refine condF hS rfl ?_
 refine wp_exit ?_
 refine hK1057 _ _ ?_
 refine wp_seq_k ?_; intro K1101 hK1101
 refine wp_seq_k ?_; intro K1102 hK1102
 refine wp_region_lit ?_
 revert aa
 refine qA hR rfl (fun _ hS => Yld.fieldAddr hS rfl 0 Try.underlying31 rfl rfl info3 (by decide)) ?_
 refine qA hR rfl (fun _ hS => Yld.load1 hS rfl Try.underlying3 rfl rdQ) ?_
 refine qM hR ?_
 intro aa hS
 refine wpList_nil ?_
 refine hK1102 _ _ ?_
 refine wp_block ?_
 refine loopI (X := Nat) [(9, _), (11, _), (12, _), (13, _), (152, _)] (fun x => [(153, .int .i64 (x : Int))]) (fun x => []) _ (fun x => x ≤ S) (fun x => S - x) 0 (Nat.zero_le _) (hS.le (Le.cons rfl (Le.nilapp (Le.cons rfl (Le.cons rfl (Le.cons rfl (Le.cons rfl (Le.cons rfl (Le.nil _))))))))) hR ?_
 clear hS hR; rintro x aa ww hI hS hR; dsimp only [List.cons_append, List.nil_append] at hI hS hR
 refine wp_seq_k ?_; intro K1104 hK1104
 refine wp_region_lit ?_
 refine sA hS hR (Yld.lss hS rfl rfl) (by decide) ?_; clear hS; intro aa hS
 refine wpList_nil ?_
 refine hK1104 _ _ ?_
 refine wp_seq_k ?_; intro K1105 hK1105
 refine hS.splitB (t := 154) rfl ?_ ?_ <;> clear hS
 ·
  intro hg hS
  refine condT hS rfl ?_
  refine wp_skip ?_
  refine hK1105 _ _ ?_
  refine wp_seq_k ?_; intro K1106 hK1106
  refine wp_block ?_
  refine wp_seq_k ?_; intro K1107 hK1107
  refine wp_region_lit ?_
  revert aa
  refine qM hR ?_
  refine qN hR ?_
  intro aa hS
  refine wpList_nil ?_
  refine hK1107 _ _ ?_
  refine wp_seq_k ?_; intro K1108 hK1108
  refine wp_region_lit ?_
  by_cases hn : ofO D.T.O (x : Int) = none
  ·
   revert aa
   refine qM hR ?_
   refine qM hR ?_
   intro aa hS
   have hob := hn
   have hcl := (cls_none (S := S) (T := D.T) (x := (x : Int)) (by omega) hob).1
   refine sB (Bcall hS rfl Try.call23 (adOf_ok (x := (x : Int)) (hR.pk (r := deskA _ b _ _ _ _) pkQ)) (by decide) ?_); clear hS; intro aa ww vv hS hp
   clear hR
   obtain ⟨rfl, hR⟩ := hp
   rw [hob] at hS
   dsimp only [Option.getD, Option.isSome] at hS
   revert aa
   refine qM hR ?_
   refine qX hR ?_
   refine qX hR ?_
   refine qN hR ?_
   refine qN hR ?_
   intro aa hS
   refine wpList_nil ?_
   refine hK1108 _ _ ?_
   refine wp_seq_k ?_; intro K1109 hK1109
   refine wp_region_lit ?_
   revert aa
   refine qM hR ?_
   refine qA hR rfl (fun _ hS => Yld.not hS rfl) ?_
   refine qB (t := 163) true rfl (by rfl) ?_
   refine qM hR ?_
   refine qMg hR ?_
   refine qMg hR ?_
   intro aa hS
   have hob := hn
   have hcl := (cls_none (S := S) (T := D.T) (x := (x : Int)) (by omega) hob).1
   refine sBg hS rfl rfl (Bcall hS rfl Try.call25 (adSee_bad (x := (x : Int)) hDF.w (by rw [hcl]; decide) (hR.pk (r := deskA _ b _ _ _ _) pkQ)) (by decide) ?_); clear hS; intro aa ww vv hS hp
   clear hR
   obtain ⟨rfl, hR⟩ := hp
   rw [hcl] at hS
   revert aa
   refine qAg hR rfl rfl rfl (fun _ hS => Yld.neq hS rfl rfl) ?_
   refine qB (t := 168) false rfl (by decide) ?_
   refine qMg hR ?_
   refine qMg hR ?_
   refine qMg hR ?_
   intro aa hS
   have hob := hn
   have hcl := (cls_none (S := S) (T := D.T) (x := (x : Int)) (by omega) hob).1
   refine sBg hS rfl rfl (Bcall hS rfl Try.call22 (adAss_bad (x := (x : Int)) hDF.w (by rw [hcl]; decide) (hR.pk (r := deskA _ b _ _ _ _) pkQ)) (by decide) ?_); clear hS; intro aa ww vv hS hp
   clear hR
   obtain ⟨rfl, hR⟩ := hp
   rw [hcl] at hS
   revert aa
   refine qAg hR rfl rfl rfl (fun _ hS => Yld.neq hS rfl rfl) ?_
   refine qB (t := 173) false rfl (by decide) ?_
   refine qAg hR rfl rfl rfl (fun _ hS => Yld.pickF hS rfl rfl) ?_
   refine qMg hR ?_
   refine qMg hR ?_
   refine qMg hR ?_
   intro aa hS
   have hob := hn
   have hcl := (cls_none (S := S) (T := D.T) (x := (x : Int)) (by omega) hob).1
   refine sBg hS rfl rfl (Bcall hS rfl Try.call15 (adClo_bad (x := (x : Int)) hDF.w (by rw [hcl]; decide) (hR.pk (r := deskA _ b _ _ _ _) pkQ)) (by decide) ?_); clear hS; intro aa ww vv hS hp
   clear hR
   obtain ⟨rfl, hR⟩ := hp
   rw [hcl] at hS
   revert aa
   refine qAg hR rfl rfl rfl (fun _ hS => Yld.neq hS rfl rfl) ?_
   refine qB (t := 179) false rfl (by decide) ?_
   refine qAg hR rfl rfl rfl (fun _ hS => Yld.pickF hS rfl rfl) ?_
   refine qA hR rfl (fun _ hS => Yld.pickT hS rfl rfl) ?_
   intro aa hS
   refine wpList_nil ?_
   refine hK1109 _ _ ?_
   refine condF hS rfl ?_
   refine wp_skip ?_
   refine hK1106 _ _ ?_
   refine wp_region_lit ?_
   refine sA hS hR adQ (by decide) ?_; clear hS; intro aa hS
   revert aa
   refine qM hR ?_
   intro aa hS
   refine wpList_nil ?_
   refine ⟨x + 1, ?_, ?_, hS.le (Le.cons rfl (Le.nilapp (Le.cons rfl (Le.cons rfl (Le.cons rfl (Le.cons rfl (Le.cons rfl (Le.nil _)))))))), hR.sub (Ex.nilapp exQ)⟩
   ·
    omega
   ·
    omega
  ·
   revert aa
   refine qM hR ?_
   refine qM hR ?_
   intro aa hS
   obtain ⟨ob, hob⟩ : ∃ o, ofO D.T.O (x : Int) = some o := by
    cases hv : ofO D.T.O (x : Int) with
    | none => exact absurd hv hn
    | some o => exact ⟨o, rfl⟩
   refine sB (Bcall hS rfl Try.call23 (adOf_ok (x := (x : Int)) (hR.pk (r := deskA _ b _ _ _ _) pkQ)) (by decide) ?_); clear hS; intro aa ww vv hS hp
   clear hR
   obtain ⟨rfl, hR⟩ := hp
   rw [hob] at hS
   dsimp only [Option.getD, Option.isSome] at hS
   revert aa
   refine qM hR ?_
   refine qX hR ?_
   refine qX hR ?_
   refine qN hR ?_
   refine qN hR ?_
   intro aa hS
   refine wpList_nil ?_
   refine hK1108 _ _ ?_
   refine wp_seq_k ?_; intro K1110 hK1110
   refine wp_region_lit ?_
   revert aa
   refine qM hR ?_
   refine qA hR rfl (fun _ hS => Yld.not hS rfl) ?_
   refine qB (t := 163) false rfl (by rfl) ?_
   refine qM hR ?_
   refine qZ ?_
   refine qZ ?_
   intro aa hS
   obtain ⟨ob, hob⟩ : ∃ o, ofO D.T.O (x : Int) = some o := by
    cases hv : ofO D.T.O (x : Int) with
    | none => exact absurd hv hn
    | some o => exact ⟨o, rfl⟩
   revert aa
   refine qZ ?_
   refine qZ ?_
   refine qZ ?_
   refine qU ?_
   refine qU ?_
   intro aa hS
   obtain ⟨ob, hob⟩ : ∃ o, ofO D.T.O (x : Int) = some o := by
    cases hv : ofO D.T.O (x : Int) with
    | none => exact absurd hv hn
    | some o => exact ⟨o, rfl⟩
   revert aa
   refine qU ?_
   refine qU ?_
   refine qZ ?_
   refine qZ ?_
   refine qU ?_
   refine qU ?_
   intro aa hS
   obtain ⟨ob, hob⟩ : ∃ o, ofO D.T.O (x : Int) = some o := by
    cases hv : ofO D.T.O (x : Int) with
    | none => exact absurd hv hn
    | some o => exact ⟨o, rfl⟩
   revert aa
   refine qU ?_
   refine qU ?_
   refine qZ ?_
   refine qA hR rfl (fun _ hS => Yld.pickF hS rfl rfl) ?_
   intro aa hS
   refine wpList_nil ?_
   refine hK1110 _ _ ?_
   refine condF hS rfl ?_
   refine wp_skip ?_
   refine hK1106 _ _ ?_
   refine wp_region_lit ?_
   refine sA hS hR adQ (by decide) ?_; clear hS; intro aa hS
   revert aa
   refine qM hR ?_
   intro aa hS
   refine wpList_nil ?_
   refine ⟨x + 1, ?_, ?_, hS.le (Le.cons rfl (Le.nilapp (Le.cons rfl (Le.cons rfl (Le.cons rfl (Le.cons rfl (Le.cons rfl (Le.nil _)))))))), hR.sub (Ex.nilapp exQ)⟩
   ·
    omega
   ·
    omega
 ·
  intro hg hS
  refine condF hS rfl ?_
  refine wp_exit ?_
  refine hK1101 _ _ ?_
  refine wp_seq_k ?_; intro K1111 hK1111
  refine wp_region_lit ?_
  revert aa
  refine qM hR ?_
  intro aa hS
  refine sB (Bcall hS rfl Try.call18 (adUnassured_ok (hR.pk (r := deskA _ b _ _ _ _) pkQ)) (by decide) ?_); clear hS; intro aa ww vv hS hp
  clear hR
  obtain ⟨rb, cb, rfl, hR⟩ := hp
  revert aa
  refine qM hR ?_
  intro aa hS
  refine sB (Bcall hS rfl Try.call21 (eqI_ok (q1 := rb) (q2 := ra) (by rw [cst_len]; omega) (by rw [cst_len]; omega) ((hR.pk (r := sls ra _ _ _ _ _) pkQ).pk (r := sls rb _ _ _ _ _) pkQ)) (by decide) ?_); clear hS; intro aa ww vv hS hp
  clear hR
  obtain ⟨rfl, hR⟩ := hp
  rw [decide_eq_true rfl] at hS
  revert aa
  refine qM hR ?_
  refine qB (t := 187) true rfl (by rfl) ?_
  refine qMg hR ?_
  intro aa hS
  refine sBg hS rfl rfl (Bcall hS rfl Try.call19 (adLen_ok hDF.w (hR.pk (r := deskA _ b _ _ _ _) pkQ)) (by decide) ?_); clear hS; intro aa ww vv hS hp
  clear hR
  obtain ⟨rfl, hR⟩ := hp
  revert aa
  refine qMg hR ?_
  refine qAg hR rfl rfl rfl (fun _ hS => Yld.eql hS rfl rfl) ?_
  refine qB (t := 191) true rfl (by exact decide_eq_true rfl) ?_
  refine qA hR rfl (fun _ hS => Yld.pickT hS rfl rfl) ?_
  refine qM hR ?_
  refine qMg hR ?_
  intro aa hS
  refine sBg hS rfl rfl (Bcall hS rfl Try.call13 (adNow_ok (hR.pk (r := deskA _ b _ _ _ _) pkQ)) (by decide) ?_); clear hS; intro aa ww vv hS hp
  clear hR
  obtain ⟨rfl, hR⟩ := hp
  revert aa
  refine qMg hR ?_
  refine qAg hR rfl rfl rfl (fun _ hS => Yld.eql hS rfl rfl) ?_
  refine qB (t := 197) true rfl (by exact decide_eq_true rfl) ?_
  refine qA hR rfl (fun _ hS => Yld.pickT hS rfl rfl) ?_
  refine qN hR ?_
  intro aa hS
  refine wpList_nil ?_
  refine hK1111 _ _ ?_
  refine wp_ret ?_
  repeat first | with_reducible refine thenR ?_ | with_reducible refine blockR ?_ | with_reducible refine scopeR ?_
  refine ret1 (fn := Try.f6) (e := .ret) (.inl rfl) Try.results6 hS hR ⟨_, (.tmp rfl), ?_⟩
  exact ⟨rfl, (hR.sub exQ)⟩
end Go.Proofs.Ytkhdejjompbklaa.Sx
