/-
  
-/
import Derived.Test.YtcokognhodjfgaaLxD
namespace Go.Proofs.Ytcokognhodjfgaa.Sx
open Go
set_option linter.unusedVariables false
set_option linter.unusedSimpArgs false

theorem bls27_2_0_1 (x0 : Int) (x1 : Int) (w : World) : (Instr.buildSlice 27 2 [(0, .int .i64 x0), (1, .int .i64 x1)].toArray).run Try.prog w = .ok (.slice (some ⟨w.heap.size, 0, none⟩) 2 2) (w.alloc (.cells ([.int .i64 x0, .int .i64 x1] : List Value).toArray 3)) := by kernel_rfl

set_option maxHeartbeats 8000000 in
set_option maxRecDepth 20000 in
theorem LinksWrong_ok {W : World} {q : Option Addr} {n c : Nat} {xs : List (List Int)} (A1 : ArgS W [.u8] q n c xs) {a n0 : Int} {l : List HP} {w : World} (hR : Sep (old W :: l) w) (ha : 0 ≤ a ∧ a ≤ 255) : CallR Try.prog 8 [.slice q n c, .int .u8 a, .int .i64 n0] w (fun v w' => v = .bool true ∧ Sep (old W :: l) w') := by
  refine enter Try.func8 rfl Try.ntmps8 (Nat.le_of_ble_eq_true rfl) ?_; intro aa hS
  have hcap := A1.cap
  refine wp_seq_k ?_; intro K351 hK351
  refine wp_region_lit ?_
  refine sA hS hR (Yld.assign hS rfl) (by decide) ?_; clear hS; intro aa hS
  refine wpList_nil ?_
  refine hK351 _ _ ?_
  refine wp_seq_k ?_; intro K352 hK352
  refine wp_region_lit ?_
  refine sA hS hR (Yld.move hS rfl) (by decide) ?_; clear hS; intro aa hS
  refine sA hS hR ((by first | exact Yld.to (Yld.convInt hS rfl rfl Try.underlying3) (congrArg (Value.int .i64) (IntWalk.i64_in _ (by omega))) | exact Yld.convInt hS rfl rfl Try.underlying3)) (by decide) ?_; clear hS; intro aa hS
  refine sA hS hR ((by first | exact Yld.rem64 hS rfl rfl (by omega) | exact Yld.rem hS rfl rfl (by omega))) (by decide) ?_; clear hS; intro aa hS
  refine sA hS hR ((by first | exact Yld.add64 hS rfl rfl (by omega) | exact Yld.add hS rfl rfl)) (by decide) ?_; clear hS; intro aa hS
  obtain ⟨nn, hnn, bnn⟩ : ∃ y : Nat, 1 + a % 5 = (y : Int) ∧ 1 ≤ y ∧ y ≤ 5 := ⟨(1 + a % 5).toNat, by omega, by omega⟩
  replace hS := hS.say (t := 34) (.int .i64 (nn : Int)) rfl (by rw [hnn])
  refine sA hS hR (Yld.assign hS rfl) (by decide) ?_; clear hS; intro aa hS
  refine wpList_nil ?_
  refine hK352 _ _ ?_
  refine wp_seq_k ?_; intro K353 hK353
  refine wp_region_lit ?_
  refine sA hS hR (Yld.move hS rfl) (by decide) ?_; clear hS; intro aa hS
  refine sA hS hR (Yld.move hS rfl) (by decide) ?_; clear hS; intro aa hS
  refine sB (Bcall hS rfl Try.call9 (put14_ok A1 hR (by omega) (by omega)) (by decide) ?_); clear hS; intro aa ww vv hS hp
  clear hR
  obtain ⟨b, rfl, hR⟩ := hp
  obtain ⟨L, hL⟩ : ∃ L, putL xs nn (min n 20) = L := ⟨_, rfl⟩
  obtain ⟨S, hS0⟩ : ∃ S, S9 n = S := ⟨_, rfl⟩
  rw [hL, hS0] at hR
  rw [hS0] at hS
  have hWL := hR.linksWL
  have hS1 := hWL.s1
  have hS20 : S ≤ 20 := by rw [← hS0]; unfold S9; omega
  refine sA hS hR (Yld.move hS rfl) (by decide) ?_; clear hS; intro aa hS
  refine sA hS hR (Yld.extract hS rfl rfl) (by decide) ?_; clear hS; intro aa hS
  refine sA hS hR (Yld.extract hS rfl rfl) (by decide) ?_; clear hS; intro aa hS
  refine sA hS hR (Yld.extract hS rfl rfl) (by decide) ?_; clear hS; intro aa hS
  refine sA hS hR (Yld.assign hS rfl) (by decide) ?_; clear hS; intro aa hS
  refine sA hS hR (Yld.assign hS rfl) (by decide) ?_; clear hS; intro aa hS
  refine sA hS hR (Yld.assign hS rfl) (by decide) ?_; clear hS; intro aa hS
  refine wpList_nil ?_
  refine hK353 _ _ ?_
  refine wp_seq_k ?_; intro K354 hK354
  refine wp_seq_k ?_; intro K355 hK355
  refine wp_region_lit ?_
  refine sA hS hR (Yld.move hS rfl) (by decide) ?_; clear hS; intro aa hS
  refine sA hS hR (Yld.not hS rfl) (by decide) ?_; clear hS; intro aa hS
  replace hS := hS.sayB (t := 43) false rfl (by rfl)
  refine wpList_nil ?_
  refine hK355 _ _ ?_
  refine condF hS rfl ?_
  refine wp_skip ?_
  refine hK354 _ _ ?_
  refine wp_seq_k ?_; intro K356 hK356
  refine wp_region_lit ?_
  refine sA hS hR (Yld.assign hS rfl) (by decide) ?_; clear hS; intro aa hS
  refine wpList_nil ?_
  refine hK356 _ _ ?_
  refine wp_seq_k ?_; intro K357 hK357
  refine wp_seq_k ?_; intro K358 hK358
  refine wp_region_lit ?_
  refine sA hS hR (Yld.move hS rfl) (by decide) ?_; clear hS; intro aa hS
  refine sA hS hR (Yld.move hS rfl) (by decide) ?_; clear hS; intro aa hS
  refine wpList_nil ?_
  refine hK358 _ _ ?_
  refine wp_block ?_
  replace hR := (hR.rowsNil (TI := 3)).slsNil (T := 27) (sz := 1)
  replace hR := hR.pk (r := rowsH 3 []) (by repeat (first | with_reducible exact Pk.here | with_reducible apply Pk.there))
  replace hR := hR.pk (r := sls none 0 0 27 1 []) (by repeat (first | with_reducible exact Pk.here | with_reducible apply Pk.there))
  refine loopI (X := Nat × List Row × Option Addr × Nat) [(2, _), (6, _), (7, _), (8, _), (9, _), (44, _)] (fun x => [(11, .slice x.2.2.1 x.2.1.length x.2.2.2), (45, .int .i64 (x.1 : Int))]) (fun x => [sls x.2.2.1 x.2.1.length x.2.2.2 27 1 (x.2.1.flatMap eR), rowsH 3 x.2.1]) _ (fun x => x.1 ≤ nn ∧ x.2.1.map Prod.snd = (List.range x.1).map fun k => cst (L k)) (fun x => nn - x.1) (0, [], none, 0) ⟨Nat.zero_le _, rfl⟩ (hS.le (Le.cons rfl (Le.cons rfl (Le.nilapp (Le.cons rfl (Le.cons rfl (Le.cons rfl (Le.cons rfl (Le.cons rfl (Le.cons rfl (Le.nil _))))))))))) hR ?_
  clear hS hR; rintro ⟨i, ys, r0, c0⟩ aa ww hI hS hR; dsimp only [List.cons_append, List.nil_append] at hI hS hR
  have hyl := congrArg List.length hI.2
  simp only [List.length_map, List.length_range] at hyl
  refine wp_seq_k ?_; intro K360 hK360
  refine wp_region_lit ?_
  refine sA hS hR (Yld.lss hS rfl rfl) (by decide) ?_; clear hS; intro aa hS
  refine wpList_nil ?_
  refine hK360 _ _ ?_
  refine wp_seq_k ?_; intro K361 hK361
  refine hS.splitB (t := 46) rfl ?_ ?_ <;> clear hS
  · intro hg hS
    refine condT hS rfl ?_
    refine wp_skip ?_
    refine hK361 _ _ ?_
    refine wp_seq_k ?_; intro K362 hK362
    refine wp_block ?_
    refine wp_seq_k ?_; intro K363 hK363
    refine wp_region_lit ?_
    refine sA hS hR (Yld.move hS rfl) (by decide) ?_; clear hS; intro aa hS
    refine sA hS hR (Yld.assign hS rfl) (by decide) ?_; clear hS; intro aa hS
    refine wpList_nil ?_
    refine hK363 _ _ ?_
    refine wp_region_lit ?_
    refine sA hS hR (Yld.move hS rfl) (by decide) ?_; clear hS; intro aa hS
    refine sA hS hR (Yld.move hS rfl) (by decide) ?_; clear hS; intro aa hS
    refine sA hS hR (Yld.move hS rfl) (by decide) ?_; clear hS; intro aa hS
    refine sB (Bcall hS rfl Try.call10 (LAll_ok (hR.pk (r := linksA _ _ _ _ _ _ _) (by repeat (first | with_reducible exact Pk.here | with_reducible apply Pk.there)))) (by decide) ?_); clear hS; intro aa ww vv hS hp
    clear hR
    obtain ⟨ra, ca, rfl, hR⟩ := hp
    refine sB (BbuildSlice hS hR rfl (bls26_1_0 _ _ _) (by decide) ?_); clear hS hR; intro aa ww bb52 hS hR
    refine sB (BappendR (sz := 1) hS hR rfl rfl Try.underlying26 info27 rfl rfl (by rfl) (by repeat (first | with_reducible exact Pk.here | with_reducible apply Pk.there)) (XC.one (((ra, ca), cst (allS nn L (i : Int)))) (by repeat (first | with_reducible exact Pk.here | with_reducible apply Pk.there)) (by rfl) rfl) (by intro _; rfl) (by show (_ + _) * 24 ≤ _; first | omega | (simp only [List.length_take, List.length_append, List.length_drop, List.length_cons, List.length_nil, List.length_map]; omega)) (by first | omega | (simp only [List.length_take, List.length_append, List.length_drop, List.length_cons, List.length_nil, List.length_map]; omega)) (by first | rfl | (simp; done) | (simp; omega)) (by decide) ?_); clear hS hR; intro aa ww r53 c53 hS hR
    have hR2 := (hR.pk (r := rowsH _ _) (by repeat (first | with_reducible exact Pk.here | with_reducible apply Pk.there))).pk (r := sls ra _ _ _ _ _) (by repeat (first | with_reducible exact Pk.here | with_reducible apply Pk.there))
    replace hR := Sep.rowSnoc (TI := 3) (y := ((ra, ca), cst (allS nn L (i : Int)))) hR2
    clear hR2
    rw [allS_nat (by omega)] at hR hS
    refine sA hS hR (Yld.assign hS rfl) (by decide) ?_; clear hS; intro aa hS
    refine wpList_nil ?_
    refine hK362 _ _ ?_
    refine wp_region_lit ?_
    refine sA hS hR ((by first | exact Yld.add64 hS rfl rfl (by omega) | exact Yld.add hS rfl rfl)) (by decide) ?_; clear hS; intro aa hS
    refine sA hS hR (Yld.move hS rfl) (by decide) ?_; clear hS; intro aa hS
    refine wpList_nil ?_
    
    refine ⟨(i + 1, _, _, _), ?_, ?_, hS.le (Le.cons rfl (Le.cons rfl (Le.nilapp (Le.cons rfl (Le.cons rfl (Le.cons rfl (Le.cons rfl (Le.cons rfl (Le.cons rfl (Le.nil _)))))))))), hR.sub (Ex.take (by repeat (first | with_reducible exact Pk.here | with_reducible apply Pk.there)) (Ex.take (by repeat (first | with_reducible exact Pk.here | with_reducible apply Pk.there)) (Ex.nilapp (by repeat (first | with_reducible exact Ex.refl | (with_reducible apply Ex.take; · repeat (first | with_reducible exact Pk.here | with_reducible apply Pk.there)) | with_reducible apply Ex.drop)))))⟩
    · exact ⟨by omega, by rw [List.map_append, hI.2, List.range_succ, List.map_append]; rfl⟩
    · dsimp only; omega
  · intro hg hS
    obtain rfl : nn = i := by omega
    have hys := hI.2
    refine condF hS rfl ?_
    refine wp_exit ?_
    refine hK357 _ _ ?_
    refine wp_seq_k ?_; intro K364 hK364
    refine wp_seq_k ?_; intro K365 hK365
    refine wp_region_lit ?_
    refine sA hS hR (Yld.move hS rfl) (by decide) ?_; clear hS; intro aa hS
    refine sA hS hR (Yld.min hS rfl rfl) (by decide) ?_; clear hS; intro aa hS
    refine sA hS hR (Yld.move hS rfl) (by decide) ?_; clear hS; intro aa hS
    refine sA hS hR (Yld.move hS rfl) (by decide) ?_; clear hS; intro aa hS
    refine sA hS hR (Yld.max hS rfl rfl) (by decide) ?_; clear hS; intro aa hS
    refine sB (BbuildSlice hS hR rfl (bls27_2_0_1 _ _) (by decide) ?_); clear hS hR; intro aa ww bb60 hS hR
    replace hR := hR.pk (r := blk bb60 _ _) (by repeat (first | with_reducible exact Pk.here | with_reducible apply Pk.there))
    replace hR := Sep.toRecs (m := 2) (sz := 1) (enc := e1) [min n0 (-1), max n0 (S : Int)] hR rfl (by intro _; rfl) rfl
    refine sA hS hR (Yld.len hS rfl Try.underlying27) (by decide) ?_; clear hS; intro aa hS
    refine sA hS hR (Yld.move hS rfl) (by decide) ?_; clear hS; intro aa hS
    refine wpList_nil ?_
    refine hK365 _ _ ?_
    refine wp_block ?_
    refine loopI (X := Nat) [(2, _), (7, _), (8, _), (9, _), (11, _), (60, _), (61, _)] (fun x => [(62, .int .i64 (x : Int))]) (fun x => []) _ (fun x => x ≤ 2) (fun x => 2 - x) 0 (Nat.zero_le _) (hS.le (Le.cons rfl (Le.nilapp (Le.cons rfl (Le.cons rfl (Le.cons rfl (Le.cons rfl (Le.cons rfl (Le.cons rfl (Le.cons rfl (Le.nil _))))))))))) hR ?_
    clear hS hR; rintro i aa ww hI hS hR; dsimp only [List.cons_append, List.nil_append] at hI hS hR
    refine wp_seq_k ?_; intro K367 hK367
    refine wp_region_lit ?_
    refine sA hS hR (Yld.lss hS rfl rfl) (by decide) ?_; clear hS; intro aa hS
    refine wpList_nil ?_
    refine hK367 _ _ ?_
    refine wp_seq_k ?_; intro K368 hK368
    refine hS.splitB (t := 63) rfl ?_ ?_ <;> clear hS
    · intro hg hS
      have hi2 : i < ([min n0 (-1), max n0 (S : Int)] : List Int).length := by show i < 2; omega
      refine condT hS rfl ?_
      refine wp_skip ?_
      refine hK368 _ _ ?_
      refine wp_seq_k ?_; intro K369 hK369
      refine wp_block ?_
      refine wp_seq_k ?_; intro K370 hK370
      refine wp_region_lit ?_
      refine sA hS hR ((by first | exact Yld.indexH (sz := 1) (i) hS rfl rfl Try.underlying27 info3 (by assumption) rfl (by first | rfl | omega) (by omega) | exact Yld.indexL (sz := 1) (i) hS rfl rfl Try.underlying27 info3 (by repeat (first | with_reducible exact Pk.here | with_reducible apply Pk.there)) rfl (by first | rfl | omega) (by omega) | exact Yld.indexB (sz := 1) (i) hS rfl rfl Try.underlying27 info3 rfl (by first | rfl | omega) (by omega))) (by decide) ?_; clear hS; intro aa hS
      refine sA hS hR (Yld.load1 hS rfl Try.underlying3 rfl (Rd.rec0 (k := i) (xs := [min n0 (-1), max n0 (S : Int)]) (by repeat (first | with_reducible exact Pk.here | with_reducible apply Pk.there)) (by intro _; rfl) (by assumption) (by rfl))) (by decide) ?_; clear hS; intro aa hS
      obtain ⟨sv, hsv⟩ : ∃ y, ([min n0 (-1), max n0 (S : Int)] : List Int)[i]'(by assumption) = y := ⟨_, rfl⟩
      have hout := two_out (n := n0) (S := S) (i := i) (by assumption)
      rw [hsv] at hout
      replace hS := hS.say (t := 65) (.int .i64 sv) rfl (by rw [hsv])
      refine sA hS hR (Yld.assign hS rfl) (by decide) ?_; clear hS; intro aa hS
      refine wpList_nil ?_
      refine hK370 _ _ ?_
      refine wp_seq_k ?_; intro K371 hK371
      refine wp_region_lit ?_
      refine sA hS hR (Yld.move hS rfl) (by decide) ?_; clear hS; intro aa hS
      refine sA hS hR (Yld.move hS rfl) (by decide) ?_; clear hS; intro aa hS
      refine sB (Bcall hS rfl Try.call11 (LOf_ok (x := sv) (hR.pk (r := linksA _ _ _ _ _ _ _) (by repeat (first | with_reducible exact Pk.here | with_reducible apply Pk.there)))) (by decide) ?_); clear hS; intro aa ww vv hS hp
      clear hR
      obtain ⟨rfl, hR⟩ := hp
      rw [ofS_out hout] at hS; (try dsimp only [optV, Option.getD, Option.isSome] at hS)
      refine sA hS hR (Yld.move hS rfl) (by decide) ?_; clear hS; intro aa hS
      refine sA hS hR (Yld.extract hS rfl rfl) (by decide) ?_; clear hS; intro aa hS
      refine sA hS hR (Yld.extract hS rfl rfl) (by decide) ?_; clear hS; intro aa hS
      replace hS := hS.sayB (t := 71) false rfl (by rfl)
      refine sA hS hR (Yld.assign hS rfl) (by decide) ?_; clear hS; intro aa hS
      refine sA hS hR (Yld.assign hS rfl) (by decide) ?_; clear hS; intro aa hS
      refine wpList_nil ?_
      refine hK371 _ _ ?_
      refine wp_seq_k ?_; intro K372 hK372
      refine wp_region_lit ?_
      refine sA hS hR (Yld.move hS rfl) (by decide) ?_; clear hS; intro aa hS
      refine sA hS hR (Yld.move hS rfl) (by decide) ?_; clear hS; intro aa hS
      refine sB (Bcall hS rfl Try.call27 (LNext_ok (x := sv) (hR.pk (r := linksA _ _ _ _ _ _ _) (by repeat (first | with_reducible exact Pk.here | with_reducible apply Pk.there)))) (by decide) ?_); clear hS; intro aa ww vv hS hp
      clear hR
      obtain ⟨rfl, hR⟩ := hp
      rw [stepS_out hout] at hS; (try dsimp only [optV, Option.getD, Option.isSome] at hS)
      refine sA hS hR (Yld.move hS rfl) (by decide) ?_; clear hS; intro aa hS
      refine sA hS hR (Yld.extract hS rfl rfl) (by decide) ?_; clear hS; intro aa hS
      refine sA hS hR (Yld.extract hS rfl rfl) (by decide) ?_; clear hS; intro aa hS
      replace hS := hS.sayB (t := 77) false rfl (by rfl)
      refine sA hS hR (Yld.assign hS rfl) (by decide) ?_; clear hS; intro aa hS
      refine sA hS hR (Yld.assign hS rfl) (by decide) ?_; clear hS; intro aa hS
      refine wpList_nil ?_
      refine hK372 _ _ ?_
      refine wp_seq_k ?_; intro K373 hK373
      refine wp_region_lit ?_
      refine sA hS hR (Yld.move hS rfl) (by decide) ?_; clear hS; intro aa hS
      refine sA hS hR (Yld.move hS rfl) (by decide) ?_; clear hS; intro aa hS
      refine sB (Bcall hS rfl Try.call28 (LBefore_ok (x := sv) (hR.pk (r := linksA _ _ _ _ _ _ _) (by repeat (first | with_reducible exact Pk.here | with_reducible apply Pk.there)))) (by decide) ?_); clear hS; intro aa ww vv hS hp
      clear hR
      obtain ⟨rfl, hR⟩ := hp
      rw [stepS_out hout] at hS; (try dsimp only [optV, Option.getD, Option.isSome] at hS)
      refine sA hS hR (Yld.move hS rfl) (by decide) ?_; clear hS; intro aa hS
      refine sA hS hR (Yld.extract hS rfl rfl) (by decide) ?_; clear hS; intro aa hS
      refine sA hS hR (Yld.extract hS rfl rfl) (by decide) ?_; clear hS; intro aa hS
      replace hS := hS.sayB (t := 83) false rfl (by rfl)
      refine sA hS hR (Yld.assign hS rfl) (by decide) ?_; clear hS; intro aa hS
      refine sA hS hR (Yld.assign hS rfl) (by decide) ?_; clear hS; intro aa hS
      refine wpList_nil ?_
      refine hK373 _ _ ?_
      refine wp_seq_k ?_; intro K374 hK374
      refine wp_region_lit ?_
      refine sA hS hR (Yld.move hS rfl) (by decide) ?_; clear hS; intro aa hS
      refine sA hS hR (Yld.move hS rfl) (by decide) ?_; clear hS; intro aa hS
      refine sAg hS hR rfl rfl (Yld.move hS rfl) (by decide) ?_; clear hS; intro aa hS
      refine sA hS hR (Yld.pickF hS rfl rfl) (by decide) ?_; clear hS; intro aa hS
      refine sA hS hR (Yld.move hS rfl) (by decide) ?_; clear hS; intro aa hS
      refine sAg hS hR rfl rfl (Yld.move hS rfl) (by decide) ?_; clear hS; intro aa hS
      refine sA hS hR (Yld.pickF hS rfl rfl) (by decide) ?_; clear hS; intro aa hS
      refine sA hS hR (Yld.move hS rfl) (by decide) ?_; clear hS; intro aa hS
      refine sAg hS hR rfl rfl (Yld.move hS rfl) (by decide) ?_; clear hS; intro aa hS
      refine sAg hS hR rfl rfl (Yld.move hS rfl) (by decide) ?_; clear hS; intro aa hS
      refine sBg hS rfl rfl (Bcall hS rfl Try.call14 (LFront_ok (x := 0) (y := sv) (hR.pk (r := linksA _ _ _ _ _ _ _) (by repeat (first | with_reducible exact Pk.here | with_reducible apply Pk.there)))) (by decide) ?_); clear hS; intro aa ww vv hS hp
      clear hR
      obtain ⟨rfl, hR⟩ := hp
      rw [addE_outS hout] at hS
      rw [addS_outS hout] at hR
      refine sAg hS hR rfl rfl (Yld.neq hS rfl rfl) (by decide) ?_; clear hS; intro aa hS
      replace hS := hS.sayB (t := 95) false rfl (by rfl)
      refine sA hS hR (Yld.pickF hS rfl rfl) (by decide) ?_; clear hS; intro aa hS
      refine sA hS hR (Yld.move hS rfl) (by decide) ?_; clear hS; intro aa hS
      refine sAg hS hR rfl rfl (Yld.move hS rfl) (by decide) ?_; clear hS; intro aa hS
      refine sAg hS hR rfl rfl (Yld.move hS rfl) (by decide) ?_; clear hS; intro aa hS
      refine sBg hS rfl rfl (Bcall hS rfl Try.call17 (LBack_ok (x := 0) (y := sv) (hR.pk (r := linksA _ _ _ _ _ _ _) (by repeat (first | with_reducible exact Pk.here | with_reducible apply Pk.there)))) (by decide) ?_); clear hS; intro aa ww vv hS hp
      clear hR
      obtain ⟨rfl, hR⟩ := hp
      rw [addE_outS hout] at hS
      rw [addS_outS hout] at hR
      refine sAg hS hR rfl rfl (Yld.neq hS rfl rfl) (by decide) ?_; clear hS; intro aa hS
      replace hS := hS.sayB (t := 101) false rfl (by rfl)
      refine sA hS hR (Yld.pickF hS rfl rfl) (by decide) ?_; clear hS; intro aa hS
      refine sA hS hR (Yld.move hS rfl) (by decide) ?_; clear hS; intro aa hS
      refine sAg hS hR rfl rfl (Yld.move hS rfl) (by decide) ?_; clear hS; intro aa hS
      refine sAg hS hR rfl rfl (Yld.move hS rfl) (by decide) ?_; clear hS; intro aa hS
      refine sBg hS rfl rfl (Bcall hS rfl Try.call16 (LOut_ok (x := sv) (hR.pk (r := linksA _ _ _ _ _ _ _) (by repeat (first | with_reducible exact Pk.here | with_reducible apply Pk.there)))) (by decide) ?_); clear hS; intro aa ww vv hS hp
      clear hR
      obtain ⟨rfl, hR⟩ := hp
      rw [outE_out hout] at hS
      rw [outS_out hout] at hR
      refine sAg hS hR rfl rfl (Yld.neq hS rfl rfl) (by decide) ?_; clear hS; intro aa hS
      replace hS := hS.sayB (t := 107) false rfl (by rfl)
      refine sA hS hR (Yld.pickF hS rfl rfl) (by decide) ?_; clear hS; intro aa hS
      refine wpList_nil ?_
      refine hK374 _ _ ?_
      refine condF hS rfl ?_
      refine wp_skip ?_
      refine hK369 _ _ ?_
      refine wp_region_lit ?_
      refine sA hS hR ((by first | exact Yld.add64 hS rfl rfl (by omega) | exact Yld.add hS rfl rfl)) (by decide) ?_; clear hS; intro aa hS
      refine sA hS hR (Yld.move hS rfl) (by decide) ?_; clear hS; intro aa hS
      refine wpList_nil ?_
      
      refine ⟨i + 1, ?_, ?_, hS.le (Le.cons rfl (Le.nilapp (Le.cons rfl (Le.cons rfl (Le.cons rfl (Le.cons rfl (Le.cons rfl (Le.cons rfl (Le.cons rfl (Le.nil _)))))))))), hR.sub (Ex.nilapp (by repeat (first | with_reducible exact Ex.refl | (with_reducible apply Ex.take; · repeat (first | with_reducible exact Pk.here | with_reducible apply Pk.there)) | with_reducible apply Ex.drop)))⟩
      · omega
      · omega
    · intro hg hS
      refine condF hS rfl ?_
      refine wp_exit ?_
      refine hK364 _ _ ?_
      refine wp_seq_k ?_; intro K375 hK375
      refine wp_seq_k ?_; intro K376 hK376
      refine wp_region_lit ?_
      refine sA hS hR (Yld.move hS rfl) (by decide) ?_; clear hS; intro aa hS
      refine sA hS hR (Yld.min hS rfl rfl) (by decide) ?_; clear hS; intro aa hS
      refine sA hS hR (Yld.move hS rfl) (by decide) ?_; clear hS; intro aa hS
      refine sA hS hR (Yld.move hS rfl) (by decide) ?_; clear hS; intro aa hS
      refine sA hS hR (Yld.max hS rfl rfl) (by decide) ?_; clear hS; intro aa hS
      refine sB (BbuildSlice hS hR rfl (bls27_2_0_1 _ _) (by decide) ?_); clear hS hR; intro aa ww bb115 hS hR
      replace hR := hR.pk (r := blk bb115 _ _) (by repeat (first | with_reducible exact Pk.here | with_reducible apply Pk.there))
      replace hR := Sep.toRecs (m := 2) (sz := 1) (enc := e1) [min n0 (-1), max n0 (nn : Int)] hR rfl (by intro _; rfl) rfl
      refine sA hS hR (Yld.len hS rfl Try.underlying27) (by decide) ?_; clear hS; intro aa hS
      refine sA hS hR (Yld.move hS rfl) (by decide) ?_; clear hS; intro aa hS
      refine wpList_nil ?_
      refine hK376 _ _ ?_
      refine wp_block ?_
      refine loopI (X := Nat) [(7, _), (8, _), (9, _), (11, _), (115, _), (116, _)] (fun x => [(117, .int .i64 (x : Int))]) (fun x => []) _ (fun x => x ≤ 2) (fun x => 2 - x) 0 (Nat.zero_le _) (hS.le (Le.cons rfl (Le.nilapp (Le.cons rfl (Le.cons rfl (Le.cons rfl (Le.cons rfl (Le.cons rfl (Le.cons rfl (Le.nil _)))))))))) hR ?_
      clear hS hR; rintro i aa ww hI hS hR; dsimp only [List.cons_append, List.nil_append] at hI hS hR
      refine wp_seq_k ?_; intro K378 hK378
      refine wp_region_lit ?_
      refine sA hS hR (Yld.lss hS rfl rfl) (by decide) ?_; clear hS; intro aa hS
      refine wpList_nil ?_
      refine hK378 _ _ ?_
      refine wp_seq_k ?_; intro K379 hK379
      refine hS.splitB (t := 118) rfl ?_ ?_ <;> clear hS
      · intro hg hS
        have hi2 : i < ([min n0 (-1), max n0 (nn : Int)] : List Int).length := by show i < 2; omega
        refine condT hS rfl ?_
        refine wp_skip ?_
        refine hK379 _ _ ?_
        refine wp_seq_k ?_; intro K380 hK380
        refine wp_block ?_
        refine wp_seq_k ?_; intro K381 hK381
        refine wp_region_lit ?_
        refine sA hS hR ((by first | exact Yld.indexH (sz := 1) (i) hS rfl rfl Try.underlying27 info3 (by assumption) rfl (by first | rfl | omega) (by omega) | exact Yld.indexL (sz := 1) (i) hS rfl rfl Try.underlying27 info3 (by repeat (first | with_reducible exact Pk.here | with_reducible apply Pk.there)) rfl (by first | rfl | omega) (by omega) | exact Yld.indexB (sz := 1) (i) hS rfl rfl Try.underlying27 info3 rfl (by first | rfl | omega) (by omega))) (by decide) ?_; clear hS; intro aa hS
        refine sA hS hR (Yld.load1 hS rfl Try.underlying3 rfl (Rd.rec0 (k := i) (xs := [min n0 (-1), max n0 (nn : Int)]) (by repeat (first | with_reducible exact Pk.here | with_reducible apply Pk.there)) (by intro _; rfl) (by assumption) (by rfl))) (by decide) ?_; clear hS; intro aa hS
        obtain ⟨kv, hkv⟩ : ∃ y, ([min n0 (-1), max n0 (nn : Int)] : List Int)[i]'(by assumption) = y := ⟨_, rfl⟩
        have hout := two_out (n := n0) (S := nn) (i := i) (by assumption)
        rw [hkv] at hout
        replace hS := hS.say (t := 120) (.int .i64 kv) rfl (by rw [hkv])
        refine sA hS hR (Yld.assign hS rfl) (by decide) ?_; clear hS; intro aa hS
        refine wpList_nil ?_
        refine hK381 _ _ ?_
        refine wp_seq_k ?_; intro K382 hK382
        refine wp_region_lit ?_
        refine sA hS hR (Yld.move hS rfl) (by decide) ?_; clear hS; intro aa hS
        refine sA hS hR (Yld.move hS rfl) (by decide) ?_; clear hS; intro aa hS
        refine sB (Bcall hS rfl Try.call12 (LFirst_ok (x := kv) (hR.pk (r := linksA _ _ _ _ _ _ _) (by repeat (first | with_reducible exact Pk.here | with_reducible apply Pk.there)))) (by decide) ?_); clear hS; intro aa ww vv hS hp
        clear hR
        obtain ⟨rfl, hR⟩ := hp
        rw [endS_out hout] at hS; (try dsimp only [optV, Option.getD, Option.isSome] at hS)
        refine sA hS hR (Yld.move hS rfl) (by decide) ?_; clear hS; intro aa hS
        refine sA hS hR (Yld.extract hS rfl rfl) (by decide) ?_; clear hS; intro aa hS
        refine sA hS hR (Yld.extract hS rfl rfl) (by decide) ?_; clear hS; intro aa hS
        replace hS := hS.sayB (t := 126) false rfl (by rfl)
        refine sA hS hR (Yld.assign hS rfl) (by decide) ?_; clear hS; intro aa hS
        refine sA hS hR (Yld.assign hS rfl) (by decide) ?_; clear hS; intro aa hS
        refine wpList_nil ?_
        refine hK382 _ _ ?_
        refine wp_seq_k ?_; intro K383 hK383
        refine wp_region_lit ?_
        refine sA hS hR (Yld.move hS rfl) (by decide) ?_; clear hS; intro aa hS
        refine sA hS hR (Yld.move hS rfl) (by decide) ?_; clear hS; intro aa hS
        refine sB (Bcall hS rfl Try.call13 (LLast_ok (x := kv) (hR.pk (r := linksA _ _ _ _ _ _ _) (by repeat (first | with_reducible exact Pk.here | with_reducible apply Pk.there)))) (by decide) ?_); clear hS; intro aa ww vv hS hp
        clear hR
        obtain ⟨rfl, hR⟩ := hp
        rw [endS_out hout] at hS; (try dsimp only [optV, Option.getD, Option.isSome] at hS)
        refine sA hS hR (Yld.move hS rfl) (by decide) ?_; clear hS; intro aa hS
        refine sA hS hR (Yld.extract hS rfl rfl) (by decide) ?_; clear hS; intro aa hS
        refine sA hS hR (Yld.extract hS rfl rfl) (by decide) ?_; clear hS; intro aa hS
        replace hS := hS.sayB (t := 132) false rfl (by rfl)
        refine sA hS hR (Yld.assign hS rfl) (by decide) ?_; clear hS; intro aa hS
        refine sA hS hR (Yld.assign hS rfl) (by decide) ?_; clear hS; intro aa hS
        refine wpList_nil ?_
        refine hK383 _ _ ?_
        refine wp_seq_k ?_; intro K384 hK384
        refine wp_region_lit ?_
        refine sA hS hR (Yld.move hS rfl) (by decide) ?_; clear hS; intro aa hS
        refine sA hS hR (Yld.move hS rfl) (by decide) ?_; clear hS; intro aa hS
        refine sAg hS hR rfl rfl (Yld.move hS rfl) (by decide) ?_; clear hS; intro aa hS
        refine sA hS hR (Yld.pickF hS rfl rfl) (by decide) ?_; clear hS; intro aa hS
        refine sA hS hR (Yld.move hS rfl) (by decide) ?_; clear hS; intro aa hS
        refine sAg hS hR rfl rfl (Yld.move hS rfl) (by decide) ?_; clear hS; intro aa hS
        refine sAg hS hR rfl rfl (Yld.move hS rfl) (by decide) ?_; clear hS; intro aa hS
        refine sBg hS rfl rfl (Bcall hS rfl Try.call26 (LLen_ok (x := kv) (hR.pk (r := linksA _ _ _ _ _ _ _) (by repeat (first | with_reducible exact Pk.here | with_reducible apply Pk.there)))) (by decide) ?_); clear hS; intro aa ww vv hS hp
        clear hR
        obtain ⟨rfl, hR⟩ := hp
        rw [allS_out hout] at hS
        refine sAg hS hR rfl rfl (Yld.move hS rfl) (by decide) ?_; clear hS; intro aa hS
        refine sAg hS hR rfl rfl (Yld.move hS rfl) (by decide) ?_; clear hS; intro aa hS
        refine sBg hS rfl rfl (Bcall hS rfl Try.call10 (LAll_ok (q := kv) (hR.pk (r := linksA _ _ _ _ _ _ _) (by repeat (first | with_reducible exact Pk.here | with_reducible apply Pk.there)))) (by decide) ?_); clear hS; intro aa ww vv hS hp
        clear hR
        obtain ⟨ra, ca, rfl, hR⟩ := hp
        rw [allS_out hout] at hS hR
        refine sAg hS hR rfl rfl (Yld.len hS rfl Try.underlying27) (by decide) ?_; clear hS; intro aa hS
        refine sAg hS hR rfl rfl ((by first | exact Yld.add64 hS rfl rfl (by omega) | exact Yld.add hS rfl rfl)) (by decide) ?_; clear hS; intro aa hS
        refine sAg hS hR rfl rfl (Yld.neq hS rfl rfl) (by decide) ?_; clear hS; intro aa hS
        replace hS := hS.sayB (t := 146) false rfl (by rfl)
        refine sA hS hR (Yld.pickF hS rfl rfl) (by decide) ?_; clear hS; intro aa hS
        refine sA hS hR (Yld.move hS rfl) (by decide) ?_; clear hS; intro aa hS
        refine sAg hS hR rfl rfl (Yld.move hS rfl) (by decide) ?_; clear hS; intro aa hS
        refine sAg hS hR rfl rfl (Yld.move hS rfl) (by decide) ?_; clear hS; intro aa hS
        refine sBg hS rfl rfl (Bcall hS rfl Try.call14 (LFront_ok (x := kv) (y := 0) (hR.pk (r := linksA _ _ _ _ _ _ _) (by repeat (first | with_reducible exact Pk.here | with_reducible apply Pk.there)))) (by decide) ?_); clear hS; intro aa ww vv hS hp
        clear hR
        obtain ⟨rfl, hR⟩ := hp
        rw [addE_outK hout] at hS
        rw [addS_outK hout] at hR
        refine sAg hS hR rfl rfl (Yld.neq hS rfl rfl) (by decide) ?_; clear hS; intro aa hS
        replace hS := hS.sayB (t := 152) false rfl (by rfl)
        refine sA hS hR (Yld.pickF hS rfl rfl) (by decide) ?_; clear hS; intro aa hS
        refine sA hS hR (Yld.move hS rfl) (by decide) ?_; clear hS; intro aa hS
        refine sAg hS hR rfl rfl (Yld.move hS rfl) (by decide) ?_; clear hS; intro aa hS
        refine sAg hS hR rfl rfl (Yld.move hS rfl) (by decide) ?_; clear hS; intro aa hS
        refine sBg hS rfl rfl (Bcall hS rfl Try.call17 (LBack_ok (x := kv) (y := 0) (hR.pk (r := linksA _ _ _ _ _ _ _) (by repeat (first | with_reducible exact Pk.here | with_reducible apply Pk.there)))) (by decide) ?_); clear hS; intro aa ww vv hS hp
        clear hR
        obtain ⟨rfl, hR⟩ := hp
        rw [addE_outK hout] at hS
        rw [addS_outK hout] at hR
        refine sAg hS hR rfl rfl (Yld.neq hS rfl rfl) (by decide) ?_; clear hS; intro aa hS
        replace hS := hS.sayB (t := 158) false rfl (by rfl)
        refine sA hS hR (Yld.pickF hS rfl rfl) (by decide) ?_; clear hS; intro aa hS
        refine sA hS hR (Yld.move hS rfl) (by decide) ?_; clear hS; intro aa hS
        refine sAg hS hR rfl rfl (Yld.move hS rfl) (by decide) ?_; clear hS; intro aa hS
        refine sAg hS hR rfl rfl (Yld.move hS rfl) (by decide) ?_; clear hS; intro aa hS
        refine sBg hS rfl rfl (Bcall hS rfl Try.call29 (LJoin_ok (tq := kv) (fq := 0) (hR.pk (r := linksA _ _ _ _ _ _ _) (by repeat (first | with_reducible exact Pk.here | with_reducible apply Pk.there)))) (by decide) ?_); clear hS; intro aa ww vv hS hp
        clear hR
        obtain ⟨rfl, hR⟩ := hp
        rw [joinE_two (.inl (by omega))] at hS
        rw [joinS_two (.inl (by omega))] at hR
        refine sAg hS hR rfl rfl (Yld.neq hS rfl rfl) (by decide) ?_; clear hS; intro aa hS
        replace hS := hS.sayB (t := 164) false rfl (by rfl)
        refine sA hS hR (Yld.pickF hS rfl rfl) (by decide) ?_; clear hS; intro aa hS
        refine sA hS hR (Yld.move hS rfl) (by decide) ?_; clear hS; intro aa hS
        refine sAg hS hR rfl rfl (Yld.move hS rfl) (by decide) ?_; clear hS; intro aa hS
        refine sAg hS hR rfl rfl (Yld.move hS rfl) (by decide) ?_; clear hS; intro aa hS
        refine sBg hS rfl rfl (Bcall hS rfl Try.call29 (LJoin_ok (tq := 0) (fq := kv) (hR.pk (r := linksA _ _ _ _ _ _ _) (by repeat (first | with_reducible exact Pk.here | with_reducible apply Pk.there)))) (by decide) ?_); clear hS; intro aa ww vv hS hp
        clear hR
        obtain ⟨rfl, hR⟩ := hp
        rw [joinE_two (.inl (by omega))] at hS
        rw [joinS_two (.inl (by omega))] at hR
        refine sAg hS hR rfl rfl (Yld.neq hS rfl rfl) (by decide) ?_; clear hS; intro aa hS
        replace hS := hS.sayB (t := 170) false rfl (by rfl)
        refine sA hS hR (Yld.pickF hS rfl rfl) (by decide) ?_; clear hS; intro aa hS
        refine wpList_nil ?_
        refine hK384 _ _ ?_
        refine condF hS rfl ?_
        refine wp_skip ?_
        refine hK380 _ _ ?_
        refine wp_region_lit ?_
        refine sA hS hR ((by first | exact Yld.add64 hS rfl rfl (by omega) | exact Yld.add hS rfl rfl)) (by decide) ?_; clear hS; intro aa hS
        refine sA hS hR (Yld.move hS rfl) (by decide) ?_; clear hS; intro aa hS
        refine wpList_nil ?_
        
        refine ⟨i + 1, ?_, ?_, hS.le (Le.cons rfl (Le.nilapp (Le.cons rfl (Le.cons rfl (Le.cons rfl (Le.cons rfl (Le.cons rfl (Le.cons rfl (Le.nil _))))))))), hR.sub (Ex.nilapp (by repeat (first | with_reducible exact Ex.refl | (with_reducible apply Ex.take; · repeat (first | with_reducible exact Pk.here | with_reducible apply Pk.there)) | with_reducible apply Ex.drop)))⟩
        · omega
        · omega
      · intro hg hS
        refine condF hS rfl ?_
        refine wp_exit ?_
        refine hK375 _ _ ?_
        refine wp_seq_k ?_; intro K385 hK385
        refine wp_seq_k ?_; intro K386 hK386
        refine wp_region_lit ?_
        refine sA hS hR (Yld.move hS rfl) (by decide) ?_; clear hS; intro aa hS
        refine sA hS hR (Yld.move hS rfl) (by decide) ?_; clear hS; intro aa hS
        refine wpList_nil ?_
        refine hK386 _ _ ?_
        refine wp_block ?_
        refine loopI (X := Nat) [(7, _), (8, _), (11, _), (173, _)] (fun x => [(174, .int .i64 (x : Int))]) (fun x => []) _ (fun x => x ≤ S) (fun x => S - x) 0 (Nat.zero_le _) (hS.le (Le.cons rfl (Le.nilapp (Le.cons rfl (Le.cons rfl (Le.cons rfl (Le.cons rfl (Le.nil _)))))))) hR ?_
        clear hS hR; rintro i aa ww hI hS hR; dsimp only [List.cons_append, List.nil_append] at hI hS hR
        refine wp_seq_k ?_; intro K388 hK388
        refine wp_region_lit ?_
        refine sA hS hR (Yld.lss hS rfl rfl) (by decide) ?_; clear hS; intro aa hS
        refine wpList_nil ?_
        refine hK388 _ _ ?_
        refine wp_seq_k ?_; intro K389 hK389
        refine hS.splitB (t := 175) rfl ?_ ?_ <;> clear hS
        · intro hg hS
          have hiS : i < S := by omega
          have hn0 : 0 < nn := by omega
          refine condT hS rfl ?_
          refine wp_skip ?_
          refine hK389 _ _ ?_
          refine wp_seq_k ?_; intro K390 hK390
          refine wp_block ?_
          refine wp_seq_k ?_; intro K391 hK391
          refine wp_region_lit ?_
          refine sA hS hR (Yld.move hS rfl) (by decide) ?_; clear hS; intro aa hS
          refine sA hS hR (Yld.assign hS rfl) (by decide) ?_; clear hS; intro aa hS
          refine wpList_nil ?_
          refine hK391 _ _ ?_
          refine wp_seq_k ?_; intro K392 hK392
          refine wp_region_lit ?_
          refine sA hS hR (Yld.move hS rfl) (by decide) ?_; clear hS; intro aa hS
          refine sA hS hR (Yld.move hS rfl) (by decide) ?_; clear hS; intro aa hS
          refine sB (Bcall hS rfl Try.call11 (LOf_ok (x := (i : Int)) (hR.pk (r := linksA _ _ _ _ _ _ _) (by repeat (first | with_reducible exact Pk.here | with_reducible apply Pk.there)))) (by decide) ?_); clear hS; intro aa ww vv hS hp
          clear hR
          obtain ⟨rfl, hR⟩ := hp
          rw [ofS_nat hiS] at hS; dsimp only [optV] at hS
          refine sA hS hR (Yld.move hS rfl) (by decide) ?_; clear hS; intro aa hS
          refine sA hS hR (Yld.extract hS rfl rfl) (by decide) ?_; clear hS; intro aa hS
          refine sA hS hR (Yld.extract hS rfl rfl) (by decide) ?_; clear hS; intro aa hS
          refine sA hS hR (Yld.assign hS rfl) (by decide) ?_; clear hS; intro aa hS
          refine sA hS hR (Yld.assign hS rfl) (by decide) ?_; clear hS; intro aa hS
          refine wpList_nil ?_
          refine hK392 _ _ ?_
          refine wp_seq_k ?_; intro K393 hK393
          refine wp_region_lit ?_
          refine sA hS hR (Yld.move hS rfl) (by decide) ?_; clear hS; intro aa hS
          refine sA hS hR (Yld.move hS rfl) (by decide) ?_; clear hS; intro aa hS
          refine hS.splitB (t := 184) rfl ?_ ?_ <;> clear hS
          · intro hg hS
            obtain ⟨k, hof⟩ := Option.isSome_iff_exists.1 hg
            refine sAg hS hR rfl rfl (Yld.move hS rfl) (by decide) ?_; clear hS; intro aa hS
            refine sAg hS hR rfl rfl (Yld.move hS rfl) (by decide) ?_; clear hS; intro aa hS
            refine sBg hS rfl rfl (Bcall hS rfl Try.call17 (LBack_ok (x := ((0 : Nat) : Int)) (y := (i : Int)) (hR.pk (r := linksA _ _ _ _ _ _ _) (by repeat (first | with_reducible exact Pk.here | with_reducible apply Pk.there)))) (by decide) ?_); clear hS; intro aa ww vv hS hp
            clear hR
            obtain ⟨rfl, hR⟩ := hp
            rw [addE_has hn0 hiS hof] at hS
            rw [addS_has hn0 hiS hof] at hR
            refine sAg hS hR rfl rfl (Yld.neq hS rfl rfl) (by decide) ?_; clear hS; intro aa hS
            replace hS := hS.sayB (t := 188) false rfl (by rfl)
            refine sAg hS hR rfl rfl (Yld.move hS rfl) (by decide) ?_; clear hS; intro aa hS
            refine sAg hS hR rfl rfl (Yld.move hS rfl) (by decide) ?_; clear hS; intro aa hS
            refine sAg hS hR rfl rfl (Yld.move hS rfl) (by decide) ?_; clear hS; intro aa hS
            refine sAg hS hR rfl rfl ((by first | exact Yld.sub64 hS rfl rfl (by omega) | exact Yld.sub hS rfl rfl)) (by decide) ?_; clear hS; intro aa hS
            replace hS := hS.say (t := 192) (.int .i64 ((nn - 1 : Nat) : Int)) rfl (by rw [show ((nn - 1 : Nat) : Int) = (nn : Int) - 1 from by omega])
            refine sAg hS hR rfl rfl (Yld.move hS rfl) (by decide) ?_; clear hS; intro aa hS
            refine sBg hS rfl rfl (Bcall hS rfl Try.call14 (LFront_ok (x := ((nn - 1 : Nat) : Int)) (y := (i : Int)) (hR.pk (r := linksA _ _ _ _ _ _ _) (by repeat (first | with_reducible exact Pk.here | with_reducible apply Pk.there)))) (by decide) ?_); clear hS; intro aa ww vv hS hp
            clear hR
            obtain ⟨rfl, hR⟩ := hp
            rw [addE_has (by omega) hiS hof] at hS
            rw [addS_has (by omega) hiS hof] at hR
            refine sAg hS hR rfl rfl (Yld.neq hS rfl rfl) (by decide) ?_; clear hS; intro aa hS
            replace hS := hS.sayB (t := 195) false rfl (by rfl)
            refine sAg hS hR rfl rfl (Yld.pickF hS rfl rfl) (by decide) ?_; clear hS; intro aa hS
            refine sA hS hR (Yld.pickT hS rfl rfl) (by decide) ?_; clear hS; intro aa hS
            refine sA hS hR (Yld.move hS rfl) (by decide) ?_; clear hS; intro aa hS
            refine sAg hS hR rfl rfl (Yld.move hS rfl) (by decide) ?_; clear hS; intro aa hS
            refine sAg hS hR rfl rfl (Yld.not hS rfl) (by decide) ?_; clear hS; intro aa hS
            replace hS := hS.sayB (t := 200) false rfl (by rw [hof]; rfl)
            refine sAg hS hR rfl rfl (Yld.move hS rfl) (by decide) ?_; clear hS; intro aa hS
            refine sSkip hS rfl rfl rfl (by decide) ?_; clear hS; intro aa hS
            refine sSkip hS rfl rfl rfl (by decide) ?_; clear hS; intro aa hS
            refine sSkip hS rfl rfl rfl (by decide) ?_; clear hS; intro aa hS
            refine sSkip hS rfl rfl rfl (by decide) ?_; clear hS; intro aa hS
            refine sAg hS hR rfl rfl (Yld.pickF hS rfl rfl) (by decide) ?_; clear hS; intro aa hS
            refine sA hS hR (Yld.pickF hS rfl rfl) (by decide) ?_; clear hS; intro aa hS
            refine wpList_nil ?_
            refine hK393 _ _ ?_
            refine condF hS rfl ?_
            refine wp_skip ?_
            refine hK390 _ _ ?_
            refine wp_region_lit ?_
            refine sA hS hR ((by first | exact Yld.add64 hS rfl rfl (by omega) | exact Yld.add hS rfl rfl)) (by decide) ?_; clear hS; intro aa hS
            refine sA hS hR (Yld.move hS rfl) (by decide) ?_; clear hS; intro aa hS
            refine wpList_nil ?_
            
            refine ⟨i + 1, ?_, ?_, hS.le (Le.cons rfl (Le.nilapp (Le.cons rfl (Le.cons rfl (Le.cons rfl (Le.cons rfl (Le.nil _))))))), hR.sub (Ex.nilapp (by repeat (first | with_reducible exact Ex.refl | (with_reducible apply Ex.take; · repeat (first | with_reducible exact Pk.here | with_reducible apply Pk.there)) | with_reducible apply Ex.drop)))⟩
            · omega
            · omega
          · intro hg hS
            have hof : ofL nn L i = none := by
              cases e : ofL nn L i with
              | none => rfl
              | some y => rw [e] at hg; simp at hg
            refine sSkip hS rfl rfl rfl (by decide) ?_; clear hS; intro aa hS
            refine sSkip hS rfl rfl rfl (by decide) ?_; clear hS; intro aa hS
            refine sSkip hS rfl rfl rfl (by decide) ?_; clear hS; intro aa hS
            refine sSkip hS rfl rfl rfl (by decide) ?_; clear hS; intro aa hS
            refine sSkip hS rfl rfl rfl (by decide) ?_; clear hS; intro aa hS
            refine sSkipU hS rfl rfl (by decide) ?_; clear hS; intro aa hS
            refine sSkipU hS rfl rfl (by decide) ?_; clear hS; intro aa hS
            refine sSkipU hS rfl rfl (by decide) ?_; clear hS; intro aa hS
            refine sSkipU hS rfl rfl (by decide) ?_; clear hS; intro aa hS
            refine sSkipU hS rfl rfl (by decide) ?_; clear hS; intro aa hS
            refine sSkipU hS rfl rfl (by decide) ?_; clear hS; intro aa hS
            refine sSkip hS rfl rfl rfl (by decide) ?_; clear hS; intro aa hS
            refine sA hS hR (Yld.pickF hS rfl rfl) (by decide) ?_; clear hS; intro aa hS
            refine sA hS hR (Yld.move hS rfl) (by decide) ?_; clear hS; intro aa hS
            refine sAg hS hR rfl rfl (Yld.move hS rfl) (by decide) ?_; clear hS; intro aa hS
            refine sAg hS hR rfl rfl (Yld.not hS rfl) (by decide) ?_; clear hS; intro aa hS
            replace hS := hS.sayB (t := 200) true rfl (by rw [hof]; rfl)
            refine sAg hS hR rfl rfl (Yld.move hS rfl) (by decide) ?_; clear hS; intro aa hS
            refine sAg hS hR rfl rfl (Yld.move hS rfl) (by decide) ?_; clear hS; intro aa hS
            refine sAg hS hR rfl rfl (Yld.move hS rfl) (by decide) ?_; clear hS; intro aa hS
            refine sBg hS rfl rfl (Bcall hS rfl Try.call16 (LOut_ok (x := (i : Int)) (hR.pk (r := linksA _ _ _ _ _ _ _) (by repeat (first | with_reducible exact Pk.here | with_reducible apply Pk.there)))) (by decide) ?_); clear hS; intro aa ww vv hS hp
            clear hR
            obtain ⟨rfl, hR⟩ := hp
            rw [outE_no hiS hof] at hS
            rw [outS_no hiS hof] at hR
            refine sAg hS hR rfl rfl (Yld.neq hS rfl rfl) (by decide) ?_; clear hS; intro aa hS
            replace hS := hS.sayB (t := 205) false rfl (by rfl)
            refine sAg hS hR rfl rfl (Yld.pickT hS rfl rfl) (by decide) ?_; clear hS; intro aa hS
            refine sA hS hR (Yld.pickF hS rfl rfl) (by decide) ?_; clear hS; intro aa hS
            refine wpList_nil ?_
            refine hK393 _ _ ?_
            refine condF hS rfl ?_
            refine wp_skip ?_
            refine hK390 _ _ ?_
            refine wp_region_lit ?_
            refine sA hS hR ((by first | exact Yld.add64 hS rfl rfl (by omega) | exact Yld.add hS rfl rfl)) (by decide) ?_; clear hS; intro aa hS
            refine sA hS hR (Yld.move hS rfl) (by decide) ?_; clear hS; intro aa hS
            refine wpList_nil ?_
            
            refine ⟨i + 1, ?_, ?_, hS.le (Le.cons rfl (Le.nilapp (Le.cons rfl (Le.cons rfl (Le.cons rfl (Le.cons rfl (Le.nil _))))))), hR.sub (Ex.nilapp (by repeat (first | with_reducible exact Ex.refl | (with_reducible apply Ex.take; · repeat (first | with_reducible exact Pk.here | with_reducible apply Pk.there)) | with_reducible apply Ex.drop)))⟩
            · omega
            · omega
        · intro hg hS
          refine condF hS rfl ?_
          refine wp_exit ?_
          refine hK385 _ _ ?_
          refine wp_seq_k ?_; intro K394 hK394
          refine wp_seq_k ?_; intro K395 hK395
          refine wp_region_lit ?_
          refine sA hS hR (Yld.move hS rfl) (by decide) ?_; clear hS; intro aa hS
          refine sA hS hR (Yld.move hS rfl) (by decide) ?_; clear hS; intro aa hS
          refine sA hS hR ((by first | exact Yld.sub64 hS rfl rfl (by omega) | exact Yld.sub hS rfl rfl)) (by decide) ?_; clear hS; intro aa hS
          refine sA hS hR (Yld.move hS rfl) (by decide) ?_; clear hS; intro aa hS
          refine sA hS hR ((by first | exact Yld.sub64 hS rfl rfl (by omega) | exact Yld.sub hS rfl rfl)) (by decide) ?_; clear hS; intro aa hS
          refine sB (Bcall hS rfl Try.call29 (LJoin_ok (tq := (nn : Int) - 1) (fq := (nn : Int) - 1) (hR.pk (r := linksA _ _ _ _ _ _ _) (by repeat (first | with_reducible exact Pk.here | with_reducible apply Pk.there)))) (by decide) ?_); clear hS; intro aa ww vv hS hp
          clear hR
          obtain ⟨rfl, hR⟩ := hp
          rw [joinE_two (.inr rfl)] at hS
          rw [joinS_two (.inr rfl)] at hR
          refine sA hS hR (Yld.neq hS rfl rfl) (by decide) ?_; clear hS; intro aa hS
          replace hS := hS.sayB (t := 215) false rfl (by rfl)
          refine wpList_nil ?_
          refine hK395 _ _ ?_
          refine condF hS rfl ?_
          refine wp_skip ?_
          refine hK394 _ _ ?_
          refine wp_seq_k ?_; intro K396 hK396
          refine wp_seq_k ?_; intro K397 hK397
          refine wp_region_lit ?_
          refine sA hS hR (Yld.move hS rfl) (by decide) ?_; clear hS; intro aa hS
          refine sA hS hR (Yld.move hS rfl) (by decide) ?_; clear hS; intro aa hS
          refine wpList_nil ?_
          refine hK397 _ _ ?_
          refine wp_block ?_
          refine loopI (X := Nat) [(8, _), (11, _), (216, _)] (fun x => [(217, .int .i64 (x : Int))]) (fun x => []) _ (fun x => x ≤ nn) (fun x => nn - x) 0 (Nat.zero_le _) (hS.le (Le.cons rfl (Le.nilapp (Le.cons rfl (Le.cons rfl (Le.cons rfl (Le.nil _))))))) hR ?_
          clear hS hR; rintro i aa ww hI hS hR; dsimp only [List.cons_append, List.nil_append] at hI hS hR
          refine wp_seq_k ?_; intro K399 hK399
          refine wp_region_lit ?_
          refine sA hS hR (Yld.lss hS rfl rfl) (by decide) ?_; clear hS; intro aa hS
          refine wpList_nil ?_
          refine hK399 _ _ ?_
          refine wp_seq_k ?_; intro K400 hK400
          refine hS.splitB (t := 218) rfl ?_ ?_ <;> clear hS
          · intro hg hS
            have hyl : ys.length = nn := by have := congrArg List.length hys; simpa using this
            have hrow : ys[i]? = some (ys[i]'(by omega)) := List.getElem?_eq_getElem (by omega)
            obtain ⟨⟨⟨rr, cr⟩, zs⟩, hy⟩ : ∃ y, ys[i]'(by omega) = y := ⟨_, rfl⟩
            rw [hy] at hrow
            have hzs : zs = cst (L i) := by
              have h9 := congrArg (fun u => u[i]?) hys
              simp only [List.getElem?_map, hrow, Option.map_some] at h9
              rw [List.getElem?_range (by omega)] at h9
              simpa using h9
            refine condT hS rfl ?_
            refine wp_skip ?_
            refine hK400 _ _ ?_
            refine wp_seq_k ?_; intro K401 hK401
            refine wp_block ?_
            refine wp_seq_k ?_; intro K402 hK402
            refine wp_region_lit ?_
            refine sA hS hR (Yld.move hS rfl) (by decide) ?_; clear hS; intro aa hS
            refine sA hS hR (Yld.assign hS rfl) (by decide) ?_; clear hS; intro aa hS
            refine wpList_nil ?_
            refine hK402 _ _ ?_
            refine wp_seq_k ?_; intro K403 hK403
            refine drawn (by kernel_rfl) hR Ex.refl ?_; clear hR; intro ww hR hR0
            refine dA 0 rfl (by kernel_rfl) (by kernel_rfl) (by kernel_rfl) (fun _ _ _ h => h) hS hR0 (Yld.move hS rfl) (by decide) ?_; clear hS; intro aa hS
            refine dA 1 rfl (by kernel_rfl) (by kernel_rfl) (by kernel_rfl) (fun _ _ _ h => h) hS hR0 (Yld.move hS rfl) (by decide) ?_; clear hS; intro aa hS
            refine dA 3 rfl (by kernel_rfl) (by kernel_rfl) (by kernel_rfl) (fun _ _ _ h => h) hS hR0 (Yld.move hS rfl) (by decide) ?_; clear hS; intro aa hS
            refine dA 4 rfl (by kernel_rfl) (by kernel_rfl) (by kernel_rfl) (fun _ _ _ h => h) hS hR0 (Yld.move hS rfl) (by decide) ?_; clear hS; intro aa hS
            refine dA 5 rfl (by kernel_rfl) (by kernel_rfl) (by kernel_rfl) (fun _ _ _ h => h) hS hR0 ((by first | exact Yld.indexH (sz := 1) (i) hS rfl rfl Try.underlying26 info27 (by assumption) rfl (by first | rfl | omega) (by omega) | exact Yld.indexL (sz := 1) (i) hS rfl rfl Try.underlying26 info27 (by repeat (first | with_reducible exact Pk.here | with_reducible apply Pk.there)) rfl (by first | rfl | omega) (by omega) | exact Yld.indexB (sz := 1) (i) hS rfl rfl Try.underlying26 info27 rfl (by first | rfl | omega) (by omega))) (by decide) ?_; clear hS; intro aa hS
            refine dA 6 rfl (by kernel_rfl) (by kernel_rfl) (by kernel_rfl) (fun _ _ _ h => h) hS hR0 (Yld.load1 hS rfl Try.underlying27 rfl (Rd.rec0 (k := i) (xs := ys) (v := .slice rr zs.length cr) (by repeat (first | with_reducible exact Pk.here | with_reducible apply Pk.there)) (by intro _; rfl) (by omega) (by rw [hy]; rfl))) (by decide) ?_; clear hS; intro aa hS
            refine dOne (i := 2) (by kernel_rfl) ?_
            refine dop rfl (Bcall hS rfl Try.call10 (LAll_ok (q := (i : Int)) (hR.pk (r := linksA _ _ _ _ _ _ _) (by repeat (first | with_reducible exact Pk.here | with_reducible apply Pk.there)))) (by decide) ?_); clear hS; intro aa ww vv hS hp
            clear hR hR0
            obtain ⟨ra, ca, rfl, hR⟩ := hp
            rw [allS_nat (show i < nn by omega)] at hS hR
            have hs1 : IntsAt _ ra (cst (L i)) := hR.intsSls (r := ra) (by repeat (first | with_reducible exact Pk.here | with_reducible apply Pk.there))
            have hs2 : IntsAt _ rr zs := hR.intsRow (by repeat (first | with_reducible exact Pk.here | with_reducible apply Pk.there)) hrow
            have hl1 : (cst (L i)).length ≤ 9000 := by rw [cst_len]; have := hWL.len (i := i) (by omega); omega
            have hl2 : zs.length ≤ 9000 := by rw [hzs]; exact hl1
            refine dnext (hR.sub (by repeat (first | with_reducible exact Ex.refl | (with_reducible apply Ex.take; · repeat (first | with_reducible exact Pk.here | with_reducible apply Pk.there)) | with_reducible apply Ex.drop))) ?_; intro hR0
            refine dOne (i := 7) (by kernel_rfl) ?_
            refine dop rfl (Bcall hS rfl Try.call18 (SameInts_ok hR hs1 hs2 hl1 hl2) (by decide) ?_); clear hS; intro aa ww vv hS hp
            clear hR hR0
            obtain ⟨rfl, hR⟩ := hp
            refine dnext (hR.sub (by repeat (first | with_reducible exact Ex.refl | (with_reducible apply Ex.take; · repeat (first | with_reducible exact Pk.here | with_reducible apply Pk.there)) | with_reducible apply Ex.drop))) ?_; intro hR0
            replace hS := hS.sayB (t := 227) true rfl (by exact decide_eq_true hzs.symm)
            refine dA 8 rfl (by kernel_rfl) (by kernel_rfl) (by kernel_rfl) (fun _ _ _ h => h) hS hR0 (Yld.not hS rfl) (by decide) ?_; clear hS; intro aa hS
            refine wpAnyH_done (by kernel_rfl) ?_ _; clear hR0
            refine hK403 _ _ ?_
            refine condF hS rfl ?_
            refine wp_skip ?_
            refine hK401 _ _ ?_
            refine wp_region_lit ?_
            refine sA hS hR ((by first | exact Yld.add64 hS rfl rfl (by omega) | exact Yld.add hS rfl rfl)) (by decide) ?_; clear hS; intro aa hS
            refine sA hS hR (Yld.move hS rfl) (by decide) ?_; clear hS; intro aa hS
            refine wpList_nil ?_
            
            refine ⟨i + 1, ?_, ?_, hS.le (Le.cons rfl (Le.nilapp (Le.cons rfl (Le.cons rfl (Le.cons rfl (Le.nil _)))))), hR.sub (Ex.nilapp (by repeat (first | with_reducible exact Ex.refl | (with_reducible apply Ex.take; · repeat (first | with_reducible exact Pk.here | with_reducible apply Pk.there)) | with_reducible apply Ex.drop)))⟩
            · omega
            · omega
          · intro hg hS
            refine condF hS rfl ?_
            refine wp_exit ?_
            refine hK396 _ _ ?_
            refine wp_seq_k ?_; intro K404 hK404
            refine wp_region_lit ?_
            refine sB (Bcall hS rfl Try.call15 (awake_ok hR) (by decide) ?_); clear hS; intro aa ww vv hS hp
            clear hR
            obtain ⟨rfl, hR⟩ := hp
            refine sA hS hR (Yld.assign hS rfl) (by decide) ?_; clear hS; intro aa hS
            refine wpList_nil ?_
            refine hK404 _ _ ?_
            refine wp_ret ?_
            repeat (first | with_reducible refine thenR ?_ | with_reducible refine blockR ?_ | with_reducible refine scopeR ?_)
            refine ret1 (fn := Try.f8) (e := .ret) (.inl rfl) Try.results8 hS hR ⟨_, (.tmp rfl), ?_⟩
            exact ⟨rfl, (hR.sub (by repeat (first | with_reducible exact Ex.refl | (with_reducible apply Ex.take; · repeat (first | with_reducible exact Pk.here | with_reducible apply Pk.there)) | with_reducible apply Ex.drop)))⟩
end Go.Proofs.Ytcokognhodjfgaa.Sx
