/-
 
-/
import Derived.Test.YthjfclljjcpikaaLwB
import Derived.Test.YthjfclljjcpikaaPq
import Derived.Test.YthjfclljjcpikaaPf
namespace Go.Proofs.Ythjfclljjcpikaa.Sx
open Go
set_option linter.unusedVariables false
set_option linter.unusedSimpArgs false

theorem info27 : Try.prog.info? 27 = some Try.t27 := by kernel_rfl

set_option maxHeartbeats 4000000 in
set_option maxRecDepth 20000 in
theorem SourceRecords_ok {W : World} {q : Option Addr} {n c : Nat} {a b0 : Int} {xs : List (List Int)} (A1 : ArgS W [.u8, .u32, .i64] q n c xs) {l : List HP} {w : World} (ha : 0 ≤ a ∧ a ≤ 255) (hb0 : 0 ≤ b0 ∧ b0 ≤ 255) (hR : Sep (old W :: l) w) : CallR Try.prog 3 [.int .u8 a, .int .u8 b0, .slice q n c] w (fun v w' => v = .bool true ∧ Sep (old W :: l) w') := by
 refine enter Try.func3 rfl Try.ntmps3 (Nat.le_of_ble_eq_true rfl) ?_; intro aa hS
 have hcap := A1.cap
 refine wp_seq_k ?_; intro K661 hK661
 refine wp_region_lit ?_
 refine sA hS hR (Yld.assign hS rfl) (by decide) ?_; clear hS; intro aa hS
 refine wpList_nil ?_
 refine hK661 _ _ ?_
 refine wp_seq_k ?_; intro K662 hK662
 refine wp_seq_k ?_; intro K663 hK663
 refine wp_region_lit ?_
 refine sB (Bcall hS rfl Try.call10 (awake31_ok hR) (by decide) ?_); clear hS; intro aa ww vv hS hp
 clear hR
 obtain ⟨rfl, hR⟩ := hp
 refine sA hS hR (Yld.not hS rfl) (by decide) ?_; clear hS; intro aa hS
 refine wpList_nil ?_
 refine hK663 _ _ ?_
 refine condF hS rfl ?_
 refine wp_skip ?_
 refine hK662 _ _ ?_
 refine wp_seq_k ?_; intro K664 hK664
 refine wp_region_lit ?_
 refine sA hS hR (Yld.move hS rfl) (by decide) ?_; clear hS; intro aa hS
 refine sA hS hR (Yld.move hS rfl) (by decide) ?_; clear hS; intro aa hS
 refine sB (Bcall hS rfl Try.call11 (fresh31_ok ha hb0 hR) (by decide) ?_); clear hS; intro aa ww vv hS hp
 clear hR
 obtain ⟨b, S, lim, rfl, hSe, hle, hR⟩ := hp
 refine sA hS hR (Yld.move hS rfl) (by decide) ?_; clear hS; intro aa hS
 refine sA hS hR (Yld.extract hS rfl rfl) (by decide) ?_; clear hS; intro aa hS
 refine sA hS hR (Yld.extract hS rfl rfl) (by decide) ?_; clear hS; intro aa hS
 refine sA hS hR (Yld.extract hS rfl rfl) (by decide) ?_; clear hS; intro aa hS
 refine sA hS hR (Yld.assign hS rfl) (by decide) ?_; clear hS; intro aa hS
 refine sA hS hR (Yld.assign hS rfl) (by decide) ?_; clear hS; intro aa hS
 refine sA hS hR (Yld.assign hS rfl) (by decide) ?_; clear hS; intro aa hS
 refine wpList_nil ?_
 refine hK664 _ _ ?_
 refine wp_seq_k ?_; intro K665 hK665
 refine wp_seq_k ?_; intro K666 hK666
 refine wp_region_lit ?_
 refine sA hS hR (Yld.move hS rfl) (by decide) ?_; clear hS; intro aa hS
 refine sA hS hR (Yld.eqlNil hS rfl rfl Try.underlying24) (by decide) ?_; clear hS; intro aa hS
 replace hS := hS.sayB (t := 27) false rfl (by rfl)
 refine wpList_nil ?_
 refine hK666 _ _ ?_
 refine condF hS rfl ?_
 refine wp_skip ?_
 refine hK665 _ _ ?_
 refine wp_seq_k ?_; intro K667 hK667
 refine wp_region_lit ?_
 refine sB (Balloc hS hR info27 (by rfl) (by rfl) (by decide) ?_); clear hS hR; intro aa ww bb10 hS hR
 replace hR := hR.pk (r := blk bb10 _ _) pkQ
 change Sep (blk bb10 ((tab 8 (fun _ => (0 : Int))).flatMap e1) 27 :: _) _ at hR
 refine wpList_nil ?_
 refine hK667 _ _ ?_
 refine wp_seq_k ?_; intro K668 hK668
 refine wp_seq_k ?_; intro K669 hK669
 refine wp_region_lit ?_
 refine sA hS hR (Yld.move hS rfl) (by decide) ?_; clear hS; intro aa hS
 refine sA hS hR (Yld.move hS rfl) (by decide) ?_; clear hS; intro aa hS
 refine sA hS hR (Yld.len hS rfl Try.underlying22) (by decide) ?_; clear hS; intro aa hS
 refine sA hS hR (Yld.min hS rfl rfl) (by decide) ?_; clear hS; intro aa hS
 refine sA hS hR (Yld.sliceHi hS rfl rfl Try.underlying22 info30 (by omega) (by omega)) (by decide) ?_; clear hS; intro aa hS
 obtain ⟨mm, hmm0, hmm1⟩ : ∃ y : Nat, (Min.min (n : Int) 100).toNat = y ∧ y ≤ n ∧ y ≤ 100 := ⟨_, rfl, by omega, by omega⟩
 replace hS := hS.say (t := 32) (.slice q mm c) rfl (by rw [hmm0])
 refine sA hS hR (Yld.len hS rfl Try.underlying22) (by decide) ?_; clear hS; intro aa hS
 refine sA hS hR (Yld.move hS rfl) (by decide) ?_; clear hS; intro aa hS
 refine wpList_nil ?_
 refine hK669 _ _ ?_
 refine wp_block ?_
 rw [show T0 S = fT S lim xs 0 from fT_zero.symm] at hR
 replace hR := hR.pk (r := blk bb10 ((tab 8 (fun _ => (0 : Int))).flatMap e1) 27) pkQ
 replace hR := hR.pk (r := sourceA ss b S lim (fT S lim xs 0)) pkQ
 refine loopI (X := Nat × (Nat → Int)) [(7, _), (8, _), (10, _), (32, _), (33, _)] (fun x => [(34, .int .i64 (x.1 : Int))]) (fun x => [sourceA ss b S lim (fT S lim xs x.1), blk bb10 ((tab 8 x.2).flatMap e1) 27]) _ (fun x => x.1 ≤ mm ∧ ∀ j, j < 8 → x.2 j = hdT (fT S lim xs x.1) j) (fun x => mm - x.1) (0, fun _ => 0) ⟨Nat.zero_le _, fun j hj => by rw [fT_zero, hdT_new]⟩ (hS.le (Le.cons rfl (Le.nilapp (Le.cons rfl (Le.cons rfl (Le.cons rfl (Le.cons rfl (Le.cons rfl (Le.nil _))))))))) hR ?_
 clear hS hR; rintro ⟨k, f0⟩ aa ww hI hS hR; dsimp only [List.cons_append, List.nil_append] at hI hS hR
 have hF0 := hI.2
 refine wp_seq_k ?_; intro K671 hK671
 refine wp_region_lit ?_
 refine sA hS hR (Yld.lss hS rfl rfl) (by decide) ?_; clear hS; intro aa hS
 refine wpList_nil ?_
 refine hK671 _ _ ?_
 refine wp_seq_k ?_; intro K672 hK672
 refine hS.splitB (t := 35) rfl ?_ ?_ <;> clear hS
 ·
  intro hg hS
  refine condT hS rfl ?_
  refine wp_skip ?_
  refine hK672 _ _ ?_
  refine wp_seq_k ?_; intro K673 hK673
  refine wp_block ?_
  refine wp_seq_k ?_; intro K674 hK674
  refine wp_region_lit ?_
  obtain ⟨ba, ia, ns, hq, hx, hl, hw, hc⟩ := A1.at (k := k) (by omega)
  obtain ⟨s0, s1, s2, rfl⟩ := len3 hl
  subst hq
  have hw0 : 0 ≤ s0 ∧ s0 ≤ 255 := hw.1
  have hw1 : 0 ≤ s1 ∧ s1 ≤ 4294967295 := hw.2.1
  refine sA hS hR ((by first | exact Yld.indexL (sz := 3) _ hS rfl rfl Try.underlying22 info30 pkQ rfl rfl (by omega) | exact Yld.indexB (sz := 3) _ hS rfl rfl Try.underlying22 info30 rfl rfl (by omega) | exact Yld.indexSlice hS rfl rfl Try.underlying22 info30 (by omega) (by omega))) (by decide) ?_; clear hS; intro aa hS
  refine sA hS hR (Yld.loadAgg (vs := [.int .u8 s0, .int .u32 s1, .int .i64 s2]) hS rfl Try.underlying30 rfl info30 (Rds.at (Rds.old pkQ hc) (by rfl)) (by rfl)) (by decide) ?_; clear hS; intro aa hS
  refine sB (Balloc hS hR info30 (by rfl) (by rfl) (by decide) ?_); clear hS hR; intro aa ww bb12 hS hR
  refine sB (Bstore hS hR rfl rfl (by rfl) info30 (by rfl) pkQ (by rfl) (Nat.le_of_ble_eq_true rfl) ?_); clear hR; intro ww hR
  refine wpList_nil ?_
  refine hK674 _ _ ?_
  refine wp_seq_k ?_; intro K675 hK675
  refine wp_region_lit ?_
  refine sA hS hR (Yld.move hS rfl) (by decide) ?_; clear hS; intro aa hS
  refine sA hS hR (Yld.move hS rfl) (by decide) ?_; clear hS; intro aa hS
  refine sA hS hR (Yld.loadAgg hS rfl Try.underlying30 rfl info30 (by first | exact Rds.cons (Rd.blk pkQ (by rfl)) (Rds.cons (Rd.blk pkQ (by rfl)) (Rds.cons (Rd.blk pkQ (by rfl)) (Rds.nil))) | exact Rds.rec pkQ (by intro _; rfl) (by first | omega | (rw [tab_len]; omega)) | exact Rds.flat1 pkQ (by intro _; rfl) (by first | omega | (rw [tab_len]; omega))) (by rfl)) (by decide) ?_; clear hS; intro aa hS
  refine sB (Bcall hS rfl Try.call12 (act31_ok (k := s0) (a := s1) (z := s2) (by omega) (by omega) hw0 hw1 (hR.pk (r := sourceA _ b _ _ _) pkQ)) (by decide) ?_); clear hS; intro aa ww vv hS hp
  clear hR
  obtain ⟨rfl, hR⟩ := hp
  have hkp := fun (j r r2 : Nat) h1 h2 => keepR (k := s0) (a := s1) (z := s2) (fT_SF (S := S) (lim := lim) (xs := xs) (i := k) (by omega) (by omega)) (b := (j : Int)) (r := r) (r' := r2) h1 h2
  have hSF2 := fT_SF (S := S) (lim := lim) (xs := xs) (i := k + 1) (by omega) (by omega)
  rw [← fT_succ hx] at hR hkp
  obtain ⟨T2, hT2⟩ : ∃ y, fT S lim xs (k + 1) = y := ⟨_, rfl⟩
  rw [hT2] at hR hSF2 hkp
  refine wpList_nil ?_
  refine hK675 _ _ ?_
  refine wp_seq_k ?_; intro K676 hK676
  refine wp_region_lit ?_
  refine sA hS hR (Yld.move hS rfl) (by decide) ?_; clear hS; intro aa hS
  refine sB (Bmake (zc := [.bool false]) hS hR rfl rfl Try.underlying34 info4 rfl (by rfl) (by rfl) (by decide) (by omega) (by show ((1 : Nat) : Int) * _ ≤ _; omega) (by omega) (by decide) ?_); clear hS hR; intro aa ww bb43 hS hR
  rw [show ((S : Int)).toNat = S from Int.toNat_natCast S] at hS hR
  replace hR := hR.pk (r := blk bb43 _ _) pkQ
  rw [zeros_flat (zc := [.bool false]) (enc := eb) (false) S rfl] at hR
  replace hR := Sep.toRecs (m := S) (sz := 1) (enc := eb) (List.replicate S false) hR rfl (by intro _; rfl) (by rw [List.length_replicate])
  rw [tab_rep] at hR
  obtain ⟨rm, hrm⟩ : ∃ y : Option Addr, some ⟨bb43, 0, none⟩ = y := ⟨_, rfl⟩
  obtain ⟨cm, hcm⟩ : ∃ y : Nat, S = y := ⟨_, rfl⟩
  replace hS := hS.say (t := 43) (.slice rm S cm) rfl (by rw [← hrm, ← hcm])
  replace hR : Sep (sls rm S cm 4 1 ((tab S (fun _ => false)).flatMap eb) :: _) _ := (by rw [← hrm, ← hcm]; exact hR)
  refine sA hS hR (Yld.assign hS rfl) (by decide) ?_; clear hS; intro aa hS
  refine wpList_nil ?_
  refine hK676 _ _ ?_
  refine wp_seq_k ?_; intro K677 hK677
  refine wp_region_lit ?_
  refine sA hS hR (Yld.move hS rfl) (by decide) ?_; clear hS; intro aa hS
  refine wpList_nil ?_
  refine hK677 _ _ ?_
  refine wp_block ?_
  replace hR := hR.pk (r := sls rm S cm 4 1 ((tab S (fun _ => false)).flatMap eb)) pkQ
  replace hR := hR.pk (r := blk bb10 ((tab 8 f0).flatMap e1) 27) pkQ
  refine loopI (X := Nat × (Nat → Int) × (Nat → Bool)) [(7, _), (8, _), (10, _), (12, _), (13, _), (32, _), (33, _), (34, _), (35, _), (36, _), (37, _), (38, _), (39, _), (40, _), (42, _), (43, _)] (fun x => [(44, .int .u32 (x.1 : Int))]) (fun x => [blk bb10 ((tab 8 x.2.1).flatMap e1) 27, sls rm S cm 4 1 ((tab S x.2.2).flatMap eb)]) _ (fun x => x.1 ≤ 8 ∧ HadI (fT S lim xs k) T2 x.1 x.2.1 ∧ MetI T2 S x.1 x.2.2) (fun x => 8 - x.1) (0, f0, fun _ => false) ⟨Nat.zero_le _, HadI.zero hF0, MetI.zero⟩ (hS.le (Le.cons rfl (Le.nilapp (Le.cons rfl (Le.cons rfl (Le.cons rfl (Le.cons rfl (Le.cons rfl (Le.cons rfl (Le.cons rfl (Le.cons rfl (Le.cons rfl (Le.cons rfl (Le.cons rfl (Le.cons rfl (Le.cons rfl (Le.cons rfl (Le.cons rfl (Le.cons rfl (Le.nil _)))))))))))))))))))) hR ?_
  clear hS hR; rintro ⟨i, f, m⟩ aa ww hI hS hR; dsimp only [List.cons_append, List.nil_append] at hI hS hR
  have hF := hI.2.1
  have hM := hI.2.2
  refine wp_seq_k ?_; intro K679 hK679
  refine wp_region_lit ?_
  refine sA hS hR (Yld.lss hS rfl rfl) (by decide) ?_; clear hS; intro aa hS
  refine wpList_nil ?_
  refine hK679 _ _ ?_
  refine wp_seq_k ?_; intro K680 hK680
  refine hS.splitB (t := 45) rfl ?_ ?_ <;> clear hS
  ·
   intro hg hS
   refine condT hS rfl ?_
   refine wp_skip ?_
   refine hK680 _ _ ?_
   refine wp_seq_k ?_; intro K681 hK681
   refine wp_block ?_
   refine wp_seq_k ?_; intro K682 hK682
   refine wp_region_lit ?_
   refine sA hS hR (Yld.move hS rfl) (by decide) ?_; clear hS; intro aa hS
   refine sA hS hR (Yld.assign hS rfl) (by decide) ?_; clear hS; intro aa hS
   refine wpList_nil ?_
   refine hK682 _ _ ?_
   refine wp_seq_k ?_; intro K683 hK683
   refine wp_region_lit ?_
   refine sA hS hR (Yld.move hS rfl) (by decide) ?_; clear hS; intro aa hS
   refine sA hS hR (Yld.move hS rfl) (by decide) ?_; clear hS; intro aa hS
   by_cases hn : (rcR T2.R (i : Int)).isSome = true
   ·
    obtain ⟨rc, hrc⟩ := Option.isSome_iff_exists.1 hn
    have hrcS := hSF2.rlt (rcR_in hrc)
    dsimp only at hrcS
    have hmno := hM.no hSF2 hrc
    have hMn := hM.some hrc
    have hFn := hF.some hrc
    have hcp := hSF2.some (a := (i : Int))
    rw [hrc] at hcp
    have hcp2 := of_decide_eq_true hcp.symm
    refine sB (Bcall hS rfl Try.call13 (soRecord_ok (a := (i : Int)) (by omega) (hR.pk (r := sourceA _ b _ _ _) pkQ)) (by decide) ?_); clear hS; intro aa ww vv hS hp
    clear hR
    obtain ⟨rfl, hR⟩ := hp
    rw [hrc] at hS
    dsimp only [optV, Option.getD, Option.isSome] at hS
    refine sA hS hR (Yld.move hS rfl) (by decide) ?_; clear hS; intro aa hS
    refine sA hS hR (Yld.extract hS rfl rfl) (by decide) ?_; clear hS; intro aa hS
    refine sA hS hR (Yld.extract hS rfl rfl) (by decide) ?_; clear hS; intro aa hS
    replace hS := hS.sayB (t := 52) true rfl (by rfl)
    refine sA hS hR (Yld.assign hS rfl) (by decide) ?_; clear hS; intro aa hS
    refine sA hS hR (Yld.assign hS rfl) (by decide) ?_; clear hS; intro aa hS
    refine wpList_nil ?_
    refine hK683 _ _ ?_
    refine wp_seq_k ?_; intro K684 hK684
    refine wp_seq_k ?_; intro K685 hK685
    refine wp_region_lit ?_
    refine sA hS hR (Yld.move hS rfl) (by decide) ?_; clear hS; intro aa hS
    refine sA hS hR (Yld.move hS rfl) (by decide) ?_; clear hS; intro aa hS
    refine sA hS hR (Yld.move hS rfl) (by decide) ?_; clear hS; intro aa hS
    refine sB (Bcall hS rfl Try.call14 (soCount_ok (a := (i : Int)) (by omega) (hR.pk (r := sourceA _ b _ _ _) pkQ)) (by decide) ?_); clear hS; intro aa ww vv hS hp
    clear hR
    obtain ⟨rfl, hR⟩ := hp
    refine sA hS hR (Yld.gtr hS rfl rfl) (by decide) ?_; clear hS; intro aa hS
    replace hS := hS.sayB (t := 57) true rfl (by exact decide_eq_true hcp2)
    refine sA hS hR (Yld.neqB hS rfl rfl Try.underlying4) (by decide) ?_; clear hS; intro aa hS
    replace hS := hS.sayB (t := 58) false rfl (by rfl)
    refine sA hS hR (Yld.move hS rfl) (by decide) ?_; clear hS; intro aa hS
    refine sAg hS hR rfl rfl (Yld.move hS rfl) (by decide) ?_; clear hS; intro aa hS
    refine sAg hS hR rfl rfl (Yld.lss hS rfl rfl) (by decide) ?_; clear hS; intro aa hS
    replace hS := hS.sayB (t := 61) false rfl (by exact decide_eq_false (by omega))
    refine sA hS hR (Yld.pickF hS rfl rfl) (by decide) ?_; clear hS; intro aa hS
    refine sA hS hR (Yld.move hS rfl) (by decide) ?_; clear hS; intro aa hS
    refine sAg hS hR rfl rfl (Yld.move hS rfl) (by decide) ?_; clear hS; intro aa hS
    refine sAg hS hR rfl rfl (Yld.move hS rfl) (by decide) ?_; clear hS; intro aa hS
    refine sAg hS hR rfl rfl (Yld.geq hS rfl rfl) (by decide) ?_; clear hS; intro aa hS
    replace hS := hS.sayB (t := 66) false rfl (by exact decide_eq_false (by omega))
    refine sA hS hR (Yld.pickF hS rfl rfl) (by decide) ?_; clear hS; intro aa hS
    refine sA hS hR (Yld.move hS rfl) (by decide) ?_; clear hS; intro aa hS
    refine sAg hS hR rfl rfl (Yld.move hS rfl) (by decide) ?_; clear hS; intro aa hS
    refine sAg hS hR rfl rfl (Yld.move hS rfl) (by decide) ?_; clear hS; intro aa hS
    refine sAg hS hR rfl rfl (Yld.move hS rfl) (by decide) ?_; clear hS; intro aa hS
    refine sAg hS hR rfl rfl (Yld.move hS rfl) (by decide) ?_; clear hS; intro aa hS
    refine sAg hS hR rfl rfl ((by first | exact Yld.indexL (sz := 1) (rc) hS rfl rfl Try.underlying34 info4 pkQ rfl (by first | rfl | omega) (by omega) | exact Yld.indexB (sz := 1) (rc) hS rfl rfl Try.underlying34 info4 rfl (by first | rfl | omega) (by omega))) (by decide) ?_; clear hS; intro aa hS
    refine sAg hS hR rfl rfl (Yld.load1 hS rfl Try.underlying4 rfl (Rd.rec0 (k := rc) (xs := tab S m) (v := .bool (m rc)) pkQ (by intro _; rfl) (by rw [tab_len]; omega) (by rw [tab_get]; rfl))) (by decide) ?_; clear hS; intro aa hS
    replace hS := hS.sayB (t := 74) false rfl (by rw [hmno])
    refine sAg hS hR rfl rfl (Yld.pickT hS rfl rfl) (by decide) ?_; clear hS; intro aa hS
    refine sA hS hR (Yld.pickF hS rfl rfl) (by decide) ?_; clear hS; intro aa hS
    refine sA hS hR (Yld.move hS rfl) (by decide) ?_; clear hS; intro aa hS
    refine sAg hS hR rfl rfl (Yld.move hS rfl) (by decide) ?_; clear hS; intro aa hS
    refine sAg hS hR rfl rfl (Yld.not hS rfl) (by decide) ?_; clear hS; intro aa hS
    replace hS := hS.sayB (t := 79) false rfl (by rfl)
    refine sAg hS hR rfl rfl (Yld.move hS rfl) (by decide) ?_; clear hS; intro aa hS
    refine sSkip hS rfl rfl rfl (by decide) ?_; clear hS; intro aa hS
    refine sSkip hS rfl rfl rfl (by decide) ?_; clear hS; intro aa hS
    refine sAg hS hR rfl rfl (Yld.pickF hS rfl rfl) (by decide) ?_; clear hS; intro aa hS
    refine sA hS hR (Yld.pickF hS rfl rfl) (by decide) ?_; clear hS; intro aa hS
    refine sA hS hR (Yld.move hS rfl) (by decide) ?_; clear hS; intro aa hS
    refine sAg hS hR rfl rfl (Yld.move hS rfl) (by decide) ?_; clear hS; intro aa hS
    refine sAg hS hR rfl rfl (Yld.move hS rfl) (by decide) ?_; clear hS; intro aa hS
    refine sAg hS hR rfl rfl (Yld.move hS rfl) (by decide) ?_; clear hS; intro aa hS
    refine sAg hS hR rfl rfl (Yld.to (u := .pointer (some ⟨bb10, i * 1, none⟩)) (Yld.indexArr hS rfl rfl Try.underlying27 info3 (by omega) (by omega)) (by have h1 : (Try.t3).size = 1 := rfl; rw [h1]; congr 3 <;> omega)) (by decide) ?_; clear hS; intro aa hS
    refine sAg hS hR rfl rfl (Yld.load1 hS rfl Try.underlying3 rfl (Rd.flat0 (sz := 1) (k := i) (xs := tab 8 f) (v := .int .i64 (f i)) pkQ (by intro _; rfl) (by rw [tab_len]; omega) (by rw [tab_get]; rfl))) (by decide) ?_; clear hS; intro aa hS
    refine sAg hS hR rfl rfl (Yld.gtr hS rfl rfl) (by decide) ?_; clear hS; intro aa hS
    refine hS.splitB (t := 91) rfl ?_ ?_ <;> clear hS
    ·
     intro hg hS
     obtain ⟨r1, hr1, hr2⟩ : ∃ r1 : Nat, rcR (fT S lim xs k).R (i : Int) = some r1 ∧ f i = (r1 : Int) + 1 := by
      have h9 := hF i (by omega)
      rw [if_neg (Nat.lt_irrefl _)] at h9
      obtain ⟨r1, h8, h7⟩ := hdT_pos (j := i) (T := fT S lim xs k) (by omega)
      exact ⟨r1, h8, by rw [h9, h7]⟩
     have hfi2 := hkp i r1 rc hr1 hrc
     have hfi := hr2
     refine sAg hS hR rfl rfl (Yld.pickT hS rfl rfl) (by decide) ?_; clear hS; intro aa hS
     refine sAg hS hR rfl rfl (Yld.move hS rfl) (by decide) ?_; clear hS; intro aa hS
     refine sAg hS hR rfl rfl (Yld.move hS rfl) (by decide) ?_; clear hS; intro aa hS
     refine sAg hS hR rfl rfl (Yld.to (u := .pointer (some ⟨bb10, i * 1, none⟩)) (Yld.indexArr hS rfl rfl Try.underlying27 info3 (by omega) (by omega)) (by have h1 : (Try.t3).size = 1 := rfl; rw [h1]; congr 3 <;> omega)) (by decide) ?_; clear hS; intro aa hS
     refine sAg hS hR rfl rfl (Yld.load1 hS rfl Try.underlying3 rfl (Rd.flat0 (sz := 1) (k := i) (xs := tab 8 f) (v := .int .i64 (f i)) pkQ (by intro _; rfl) (by rw [tab_len]; omega) (by rw [tab_get]; rfl))) (by decide) ?_; clear hS; intro aa hS
     refine sAg hS hR rfl rfl (Yld.move hS rfl) (by decide) ?_; clear hS; intro aa hS
     refine sAg hS hR rfl rfl ((by first | exact Yld.add64 hS rfl rfl (by omega) | exact Yld.add hS rfl rfl)) (by decide) ?_; clear hS; intro aa hS
     refine sAg hS hR rfl rfl (Yld.neq hS rfl rfl) (by decide) ?_; clear hS; intro aa hS
     replace hS := hS.sayB (t := 99) false rfl (by exact decide_eq_false (fun h => h (by rw [hfi, hfi2])))
     refine sAg hS hR rfl rfl (Yld.pickT hS rfl rfl) (by decide) ?_; clear hS; intro aa hS
     refine sA hS hR (Yld.pickF hS rfl rfl) (by decide) ?_; clear hS; intro aa hS
     refine wpList_nil ?_
     refine hK685 _ _ ?_
     refine condF hS rfl ?_
     refine wp_skip ?_
     refine hK684 _ _ ?_
     refine wp_seq_k ?_; intro K686 hK686
     refine wp_region_lit ?_
     refine sA hS hR (Yld.move hS rfl) (by decide) ?_; clear hS; intro aa hS
     refine sA hS hR (Yld.to (u := .pointer (some ⟨bb10, i, none⟩)) (Yld.indexArr hS rfl rfl Try.underlying27 info3 (by omega) (by omega)) (by have h1 : (Try.t3).size = 1 := rfl; rw [h1]; congr 3 <;> omega)) (by decide) ?_; clear hS; intro aa hS
     refine sB (BstoreJ hS hR rfl rfl info3 rfl pkQ (by omega) ?_); clear hR; intro ww hR
     refine wpList_nil ?_
     refine hK686 _ _ ?_
     refine wp_seq_k ?_; intro K687 hK687
     refine wp_region_lit ?_
     refine sA hS hR (Yld.move hS rfl) (by decide) ?_; clear hS; intro aa hS
     refine wpList_nil ?_
     refine hK687 _ _ ?_
     refine condT hS rfl ?_
     refine wp_region_lit ?_
     refine sA hS hR (Yld.move hS rfl) (by decide) ?_; clear hS; intro aa hS
     refine sA hS hR (Yld.move hS rfl) (by decide) ?_; clear hS; intro aa hS
     refine sA hS hR (Yld.move hS rfl) (by decide) ?_; clear hS; intro aa hS
     refine sA hS hR (Yld.move hS rfl) (by decide) ?_; clear hS; intro aa hS
     refine sA hS hR ((by first | exact Yld.add64 hS rfl rfl (by omega) | exact Yld.add hS rfl rfl)) (by decide) ?_; clear hS; intro aa hS
     refine sA hS hR ((by first | exact Yld.indexL (sz := 1) (rc) hS rfl rfl Try.underlying34 info4 pkQ rfl (by first | rfl | omega) (by omega) | exact Yld.indexB (sz := 1) (rc) hS rfl rfl Try.underlying34 info4 rfl (by first | rfl | omega) (by omega))) (by decide) ?_; clear hS; intro aa hS
     refine sB (BstoreR0 (true) hS hR rfl rfl (by rfl) info4 (by rfl) pkQ (by rfl) (by intro _; rfl) (by first | omega | (rw [tab_len]; omega)) (by first | exact Nat.le_of_ble_eq_true rfl | (simp only [List.length_singleton]; omega)) (Nat.le_of_ble_eq_true rfl) (by rfl) ?_); clear hR; intro ww hR
     try rw [tab_set] at hR
     refine sA hS hR (Yld.to (u := .pointer (some ⟨bb10, i, none⟩)) (Yld.indexArr hS rfl rfl Try.underlying27 info3 (by omega) (by omega)) (by have h1 : (Try.t3).size = 1 := rfl; rw [h1]; congr 3 <;> omega)) (by decide) ?_; clear hS; intro aa hS
     refine sB (BstoreJ hS hR rfl rfl info3 rfl pkQ (by omega) ?_); clear hR; intro ww hR
     try rw [tab_set] at hR
     refine wpList_nil ?_
     refine hK681 _ _ ?_
     refine wp_region_lit ?_
     refine sA hS hR ((by first | exact Yld.to (Yld.add hS rfl rfl) (congrArg (Value.int .u32) (IntWalk.u32_in _ (by omega))) | exact Yld.add hS rfl rfl)) (by decide) ?_; clear hS; intro aa hS
     refine sA hS hR (Yld.move hS rfl) (by decide) ?_; clear hS; intro aa hS
     refine wpList_nil ?_
     
     refine ⟨(i + 1, _, _), ?_, ?_, hS.le (Le.cons rfl (Le.nilapp (Le.cons rfl (Le.cons rfl (Le.cons rfl (Le.cons rfl (Le.cons rfl (Le.cons rfl (Le.cons rfl (Le.cons rfl (Le.cons rfl (Le.cons rfl (Le.cons rfl (Le.cons rfl (Le.cons rfl (Le.cons rfl (Le.cons rfl (Le.cons rfl (Le.nil _))))))))))))))))))), hR.sub (Ex.take pkQ (Ex.take pkQ (Ex.nilapp exQ)))⟩
     ·
      dsimp only; exact ⟨by omega, hFn, hMn⟩
     ·
      dsimp only; omega
    ·
     intro hg hS
     refine sAg hS hR rfl rfl (Yld.pickT hS rfl rfl) (by decide) ?_; clear hS; intro aa hS
     refine sAg hS hR rfl rfl (Yld.move hS rfl) (by decide) ?_; clear hS; intro aa hS
     refine sSkip hS rfl rfl rfl (by decide) ?_; clear hS; intro aa hS
     refine sSkip hS rfl rfl rfl (by decide) ?_; clear hS; intro aa hS
     refine sSkip hS rfl rfl rfl (by decide) ?_; clear hS; intro aa hS
     refine sSkip hS rfl rfl rfl (by decide) ?_; clear hS; intro aa hS
     refine sSkip hS rfl rfl rfl (by decide) ?_; clear hS; intro aa hS
     refine sSkip hS rfl rfl rfl (by decide) ?_; clear hS; intro aa hS
     refine sAg hS hR rfl rfl (Yld.pickF hS rfl rfl) (by decide) ?_; clear hS; intro aa hS
     refine sA hS hR (Yld.pickF hS rfl rfl) (by decide) ?_; clear hS; intro aa hS
     refine wpList_nil ?_
     refine hK685 _ _ ?_
     refine condF hS rfl ?_
     refine wp_skip ?_
     refine hK684 _ _ ?_
     refine wp_seq_k ?_; intro K688 hK688
     refine wp_region_lit ?_
     refine sA hS hR (Yld.move hS rfl) (by decide) ?_; clear hS; intro aa hS
     refine sA hS hR (Yld.to (u := .pointer (some ⟨bb10, i, none⟩)) (Yld.indexArr hS rfl rfl Try.underlying27 info3 (by omega) (by omega)) (by have h1 : (Try.t3).size = 1 := rfl; rw [h1]; congr 3 <;> omega)) (by decide) ?_; clear hS; intro aa hS
     refine sB (BstoreJ hS hR rfl rfl info3 rfl pkQ (by omega) ?_); clear hR; intro ww hR
     refine wpList_nil ?_
     refine hK688 _ _ ?_
     refine wp_seq_k ?_; intro K689 hK689
     refine wp_region_lit ?_
     refine sA hS hR (Yld.move hS rfl) (by decide) ?_; clear hS; intro aa hS
     refine wpList_nil ?_
     refine hK689 _ _ ?_
     refine condT hS rfl ?_
     refine wp_region_lit ?_
     refine sA hS hR (Yld.move hS rfl) (by decide) ?_; clear hS; intro aa hS
     refine sA hS hR (Yld.move hS rfl) (by decide) ?_; clear hS; intro aa hS
     refine sA hS hR (Yld.move hS rfl) (by decide) ?_; clear hS; intro aa hS
     refine sA hS hR (Yld.move hS rfl) (by decide) ?_; clear hS; intro aa hS
     refine sA hS hR ((by first | exact Yld.add64 hS rfl rfl (by omega) | exact Yld.add hS rfl rfl)) (by decide) ?_; clear hS; intro aa hS
     refine sA hS hR ((by first | exact Yld.indexL (sz := 1) (rc) hS rfl rfl Try.underlying34 info4 pkQ rfl (by first | rfl | omega) (by omega) | exact Yld.indexB (sz := 1) (rc) hS rfl rfl Try.underlying34 info4 rfl (by first | rfl | omega) (by omega))) (by decide) ?_; clear hS; intro aa hS
     refine sB (BstoreR0 (true) hS hR rfl rfl (by rfl) info4 (by rfl) pkQ (by rfl) (by intro _; rfl) (by first | omega | (rw [tab_len]; omega)) (by first | exact Nat.le_of_ble_eq_true rfl | (simp only [List.length_singleton]; omega)) (Nat.le_of_ble_eq_true rfl) (by rfl) ?_); clear hR; intro ww hR
     try rw [tab_set] at hR
     refine sA hS hR (Yld.to (u := .pointer (some ⟨bb10, i, none⟩)) (Yld.indexArr hS rfl rfl Try.underlying27 info3 (by omega) (by omega)) (by have h1 : (Try.t3).size = 1 := rfl; rw [h1]; congr 3 <;> omega)) (by decide) ?_; clear hS; intro aa hS
     refine sB (BstoreJ hS hR rfl rfl info3 rfl pkQ (by omega) ?_); clear hR; intro ww hR
     try rw [tab_set] at hR
     refine wpList_nil ?_
     refine hK681 _ _ ?_
     refine wp_region_lit ?_
     refine sA hS hR ((by first | exact Yld.to (Yld.add hS rfl rfl) (congrArg (Value.int .u32) (IntWalk.u32_in _ (by omega))) | exact Yld.add hS rfl rfl)) (by decide) ?_; clear hS; intro aa hS
     refine sA hS hR (Yld.move hS rfl) (by decide) ?_; clear hS; intro aa hS
     refine wpList_nil ?_
     
     refine ⟨(i + 1, _, _), ?_, ?_, hS.le (Le.cons rfl (Le.nilapp (Le.cons rfl (Le.cons rfl (Le.cons rfl (Le.cons rfl (Le.cons rfl (Le.cons rfl (Le.cons rfl (Le.cons rfl (Le.cons rfl (Le.cons rfl (Le.cons rfl (Le.cons rfl (Le.cons rfl (Le.cons rfl (Le.cons rfl (Le.cons rfl (Le.nil _))))))))))))))))))), hR.sub (Ex.take pkQ (Ex.take pkQ (Ex.nilapp exQ)))⟩
     ·
      dsimp only; exact ⟨by omega, hFn, hMn⟩
     ·
      dsimp only; omega
   ·
    have hrc : rcR T2.R (i : Int) = none := by
     cases hv : rcR T2.R (i : Int) with
     | none => rfl
     | some o => rw [hv] at hn; simp at hn
    have hMn := hM.none hrc
    have hFn := hF.none hrc
    have hcp := hSF2.slNil hrc
    refine sB (Bcall hS rfl Try.call13 (soRecord_ok (a := (i : Int)) (by omega) (hR.pk (r := sourceA _ b _ _ _) pkQ)) (by decide) ?_); clear hS; intro aa ww vv hS hp
    clear hR
    obtain ⟨rfl, hR⟩ := hp
    rw [hrc] at hS
    dsimp only [optV, Option.getD, Option.isSome] at hS
    refine sA hS hR (Yld.move hS rfl) (by decide) ?_; clear hS; intro aa hS
    refine sA hS hR (Yld.extract hS rfl rfl) (by decide) ?_; clear hS; intro aa hS
    refine sA hS hR (Yld.extract hS rfl rfl) (by decide) ?_; clear hS; intro aa hS
    replace hS := hS.sayB (t := 52) false rfl (by rfl)
    refine sA hS hR (Yld.assign hS rfl) (by decide) ?_; clear hS; intro aa hS
    refine sA hS hR (Yld.assign hS rfl) (by decide) ?_; clear hS; intro aa hS
    refine wpList_nil ?_
    refine hK683 _ _ ?_
    refine wp_seq_k ?_; intro K690 hK690
    refine wp_seq_k ?_; intro K691 hK691
    refine wp_region_lit ?_
    refine sA hS hR (Yld.move hS rfl) (by decide) ?_; clear hS; intro aa hS
    refine sA hS hR (Yld.move hS rfl) (by decide) ?_; clear hS; intro aa hS
    refine sA hS hR (Yld.move hS rfl) (by decide) ?_; clear hS; intro aa hS
    refine sB (Bcall hS rfl Try.call14 (soCount_ok (a := (i : Int)) (by omega) (hR.pk (r := sourceA _ b _ _ _) pkQ)) (by decide) ?_); clear hS; intro aa ww vv hS hp
    clear hR
    obtain ⟨rfl, hR⟩ := hp
    refine sA hS hR (Yld.gtr hS rfl rfl) (by decide) ?_; clear hS; intro aa hS
    replace hS := hS.sayB (t := 57) false rfl (by rw [hcp]; rfl)
    refine sA hS hR (Yld.neqB hS rfl rfl Try.underlying4) (by decide) ?_; clear hS; intro aa hS
    replace hS := hS.sayB (t := 58) false rfl (by rfl)
    refine sA hS hR (Yld.move hS rfl) (by decide) ?_; clear hS; intro aa hS
    refine sAg hS hR rfl rfl (Yld.move hS rfl) (by decide) ?_; clear hS; intro aa hS
    refine sAg hS hR rfl rfl (Yld.lss hS rfl rfl) (by decide) ?_; clear hS; intro aa hS
    replace hS := hS.sayB (t := 61) false rfl (by simp)
    refine sA hS hR (Yld.pickF hS rfl rfl) (by decide) ?_; clear hS; intro aa hS
    refine sA hS hR (Yld.move hS rfl) (by decide) ?_; clear hS; intro aa hS
    refine sAg hS hR rfl rfl (Yld.move hS rfl) (by decide) ?_; clear hS; intro aa hS
    refine sAg hS hR rfl rfl (Yld.move hS rfl) (by decide) ?_; clear hS; intro aa hS
    refine sAg hS hR rfl rfl (Yld.geq hS rfl rfl) (by decide) ?_; clear hS; intro aa hS
    replace hS := hS.sayB (t := 66) false rfl (by exact decide_eq_false (by omega))
    refine sA hS hR (Yld.pickF hS rfl rfl) (by decide) ?_; clear hS; intro aa hS
    refine sA hS hR (Yld.move hS rfl) (by decide) ?_; clear hS; intro aa hS
    refine sAg hS hR rfl rfl (Yld.move hS rfl) (by decide) ?_; clear hS; intro aa hS
    refine sAg hS hR rfl rfl (Yld.move hS rfl) (by decide) ?_; clear hS; intro aa hS
    refine sSkip hS rfl rfl rfl (by decide) ?_; clear hS; intro aa hS
    refine sSkip hS rfl rfl rfl (by decide) ?_; clear hS; intro aa hS
    refine sSkip hS rfl rfl rfl (by decide) ?_; clear hS; intro aa hS
    refine sSkip hS rfl rfl rfl (by decide) ?_; clear hS; intro aa hS
    refine sAg hS hR rfl rfl (Yld.pickF hS rfl rfl) (by decide) ?_; clear hS; intro aa hS
    refine sA hS hR (Yld.pickF hS rfl rfl) (by decide) ?_; clear hS; intro aa hS
    refine sA hS hR (Yld.move hS rfl) (by decide) ?_; clear hS; intro aa hS
    refine sAg hS hR rfl rfl (Yld.move hS rfl) (by decide) ?_; clear hS; intro aa hS
    refine sAg hS hR rfl rfl (Yld.not hS rfl) (by decide) ?_; clear hS; intro aa hS
    replace hS := hS.sayB (t := 79) true rfl (by rfl)
    refine sAg hS hR rfl rfl (Yld.move hS rfl) (by decide) ?_; clear hS; intro aa hS
    refine sAg hS hR rfl rfl (Yld.move hS rfl) (by decide) ?_; clear hS; intro aa hS
    refine sAg hS hR rfl rfl (Yld.neq hS rfl rfl) (by decide) ?_; clear hS; intro aa hS
    replace hS := hS.sayB (t := 82) false rfl (by simp)
    refine sAg hS hR rfl rfl (Yld.pickT hS rfl rfl) (by decide) ?_; clear hS; intro aa hS
    refine sA hS hR (Yld.pickF hS rfl rfl) (by decide) ?_; clear hS; intro aa hS
    refine sA hS hR (Yld.move hS rfl) (by decide) ?_; clear hS; intro aa hS
    refine sAg hS hR rfl rfl (Yld.move hS rfl) (by decide) ?_; clear hS; intro aa hS
    refine sAg hS hR rfl rfl (Yld.move hS rfl) (by decide) ?_; clear hS; intro aa hS
    refine sSkip hS rfl rfl rfl (by decide) ?_; clear hS; intro aa hS
    refine sSkip hS rfl rfl rfl (by decide) ?_; clear hS; intro aa hS
    refine sSkip hS rfl rfl rfl (by decide) ?_; clear hS; intro aa hS
    refine sSkip hS rfl rfl rfl (by decide) ?_; clear hS; intro aa hS
    refine sAg hS hR rfl rfl (Yld.pickF hS rfl rfl) (by decide) ?_; clear hS; intro aa hS
    refine sAg hS hR rfl rfl (Yld.move hS rfl) (by decide) ?_; clear hS; intro aa hS
    refine sSkip hS rfl rfl rfl (by decide) ?_; clear hS; intro aa hS
    refine sSkip hS rfl rfl rfl (by decide) ?_; clear hS; intro aa hS
    refine sSkip hS rfl rfl rfl (by decide) ?_; clear hS; intro aa hS
    refine sSkip hS rfl rfl rfl (by decide) ?_; clear hS; intro aa hS
    refine sSkip hS rfl rfl rfl (by decide) ?_; clear hS; intro aa hS
    refine sSkip hS rfl rfl rfl (by decide) ?_; clear hS; intro aa hS
    refine sAg hS hR rfl rfl (Yld.pickF hS rfl rfl) (by decide) ?_; clear hS; intro aa hS
    refine sA hS hR (Yld.pickF hS rfl rfl) (by decide) ?_; clear hS; intro aa hS
    refine wpList_nil ?_
    refine hK691 _ _ ?_
    refine condF hS rfl ?_
    refine wp_skip ?_
    refine hK690 _ _ ?_
    refine wp_seq_k ?_; intro K692 hK692
    refine wp_region_lit ?_
    refine sA hS hR (Yld.move hS rfl) (by decide) ?_; clear hS; intro aa hS
    refine sA hS hR (Yld.to (u := .pointer (some ⟨bb10, i, none⟩)) (Yld.indexArr hS rfl rfl Try.underlying27 info3 (by omega) (by omega)) (by have h1 : (Try.t3).size = 1 := rfl; rw [h1]; congr 3 <;> omega)) (by decide) ?_; clear hS; intro aa hS
    refine sB (BstoreJ hS hR rfl rfl info3 rfl pkQ (by omega) ?_); clear hR; intro ww hR
    refine wpList_nil ?_
    refine hK692 _ _ ?_
    refine wp_seq_k ?_; intro K693 hK693
    refine wp_region_lit ?_
    refine sA hS hR (Yld.move hS rfl) (by decide) ?_; clear hS; intro aa hS
    refine wpList_nil ?_
    refine hK693 _ _ ?_
    refine condF hS rfl ?_
    refine wp_skip ?_
    refine hK681 _ _ ?_
    refine wp_region_lit ?_
    refine sA hS hR ((by first | exact Yld.to (Yld.add hS rfl rfl) (congrArg (Value.int .u32) (IntWalk.u32_in _ (by omega))) | exact Yld.add hS rfl rfl)) (by decide) ?_; clear hS; intro aa hS
    refine sA hS hR (Yld.move hS rfl) (by decide) ?_; clear hS; intro aa hS
    refine wpList_nil ?_
    
    refine ⟨(i + 1, _, _), ?_, ?_, hS.le (Le.cons rfl (Le.nilapp (Le.cons rfl (Le.cons rfl (Le.cons rfl (Le.cons rfl (Le.cons rfl (Le.cons rfl (Le.cons rfl (Le.cons rfl (Le.cons rfl (Le.cons rfl (Le.cons rfl (Le.cons rfl (Le.cons rfl (Le.cons rfl (Le.cons rfl (Le.cons rfl (Le.nil _))))))))))))))))))), hR.sub (Ex.take pkQ (Ex.take pkQ (Ex.nilapp exQ)))⟩
    ·
     dsimp only; exact ⟨by omega, hFn, hMn⟩
    ·
     dsimp only; omega
  ·
   intro hg hS
   obtain rfl : i = 8 := by omega
   have hFa := hF.all
   refine condF hS rfl ?_
   refine wp_exit ?_
   refine hK673 _ _ ?_
   refine wp_region_lit ?_
   refine sA hS hR ((by first | exact Yld.add64 hS rfl rfl (by omega) | exact Yld.add hS rfl rfl)) (by decide) ?_; clear hS; intro aa hS
   refine sA hS hR (Yld.move hS rfl) (by decide) ?_; clear hS; intro aa hS
   refine wpList_nil ?_
   rw [← hT2] at hR
   refine ⟨(k + 1, f), ?_, ?_, hS.le (Le.cons rfl (Le.nilapp (Le.cons rfl (Le.cons rfl (Le.cons rfl (Le.cons rfl (Le.cons rfl (Le.nil _)))))))), hR.sub (Ex.take pkQ (Ex.take pkQ (Ex.nilapp exQ)))⟩
   ·
    dsimp only; exact ⟨by omega, by rw [hT2]; exact hFa⟩
   ·
    dsimp only; omega
 ·
  intro hg hS
  refine condF hS rfl ?_
  refine wp_exit ?_
  refine hK668 _ _ ?_
  refine wp_seq_k ?_; intro K694 hK694
  refine wp_region_lit ?_
  refine sA hS hR (Yld.assign hS rfl) (by decide) ?_; clear hS; intro aa hS
  refine wpList_nil ?_
  refine hK694 _ _ ?_
  refine wp_ret ?_
  repeat (first | with_reducible refine thenR ?_ | with_reducible refine blockR ?_ | with_reducible refine scopeR ?_)
  refine ret1 (fn := Try.f3) (e := .ret) (.inl rfl) Try.results3 hS hR ⟨_, (.tmp rfl), ?_⟩
  exact ⟨rfl, (hR.sub exQ)⟩
end Go.Proofs.Ythjfclljjcpikaa.Sx
