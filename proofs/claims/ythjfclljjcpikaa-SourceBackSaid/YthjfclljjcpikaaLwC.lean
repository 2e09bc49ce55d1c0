/-
 
-/
import Derived.Test.YthjfclljjcpikaaLwB
namespace Go.Proofs.Ythjfclljjcpikaa.Sx
open Go
set_option linter.unusedVariables false
set_option linter.unusedSimpArgs false



set_option maxHeartbeats 4000000 in
set_option maxRecDepth 20000 in
theorem SourceBack_ok {W : World} {q : Option Addr} {n c : Nat} {a b0 ad z : Int} {xs : List (List Int)} (A1 : ArgS W [.u8, .u32, .i64] q n c xs) {l : List HP} {w : World} (ha : 0 ≤ a ∧ a ≤ 255) (hb0 : 0 ≤ b0 ∧ b0 ≤ 255) (had : 0 ≤ ad ∧ ad ≤ 4294967295) (hz : 0 ≤ z ∧ z ≤ 255) (hR : Sep (old W :: l) w) : CallR Try.prog 7 [.int .u8 a, .int .u8 b0, .slice q n c, .int .u32 ad, .int .u8 z] w (fun v w' => v = .bool true ∧ Sep (old W :: l) w') := by
 refine enter Try.func7 rfl Try.ntmps7 (Nat.le_of_ble_eq_true rfl) ?_; intro aa hS
 refine wp_seq_k ?_; intro K568 hK568
 refine wp_region_lit ?_
 refine sA hS hR (Yld.assign hS rfl) (by decide) ?_; clear hS; intro aa hS
 refine wpList_nil ?_
 refine hK568 _ _ ?_
 refine wp_seq_k ?_; intro K569 hK569
 refine wp_seq_k ?_; intro K570 hK570
 refine wp_region_lit ?_
 refine sB (Bcall hS rfl Try.call10 (awake31_ok hR) (by decide) ?_); clear hS; intro aa ww vv hS hp
 clear hR
 obtain ⟨rfl, hR⟩ := hp
 refine sA hS hR (Yld.not hS rfl) (by decide) ?_; clear hS; intro aa hS
 refine wpList_nil ?_
 refine hK570 _ _ ?_
 refine condF hS rfl ?_
 refine wp_skip ?_
 refine hK569 _ _ ?_
 refine wp_seq_k ?_; intro K571 hK571
 refine wp_region_lit ?_
 refine sA hS hR (Yld.move hS rfl) (by decide) ?_; clear hS; intro aa hS
 refine sA hS hR (Yld.move hS rfl) (by decide) ?_; clear hS; intro aa hS
 refine sA hS hR (Yld.move hS rfl) (by decide) ?_; clear hS; intro aa hS
 refine sB (Bcall hS rfl Try.call25 (made31_ok A1 ha hb0 (hR.pk (r := old W) pkQ)) (by decide) ?_); clear hS; intro aa ww vv hS hp
 clear hR
 obtain ⟨b, S, lim, rfl, hSe, hle, hR⟩ := hp
 obtain ⟨T, hTe⟩ : ∃ y, fT S lim xs (min n 100) = y := ⟨_, rfl⟩
 rw [hTe] at hR
 have hSF : SF S lim T := by rw [← hTe]; exact fT_SF (by omega) (by omega)
 have hol := hSF.olen
 have hrl := hSF.rlen
 have hsl1 := fun a => Nat.le_trans (slO_len (O := T.O) (a := a)) hol
 refine sA hS hR (Yld.move hS rfl) (by decide) ?_; clear hS; intro aa hS
 refine sA hS hR (Yld.move hS rfl) (by decide) ?_; clear hS; intro aa hS
 refine sA hS hR (Yld.move hS rfl) (by decide) ?_; clear hS; intro aa hS
 refine sB (Bcall hS rfl Try.call25 (made31_ok A1 ha hb0 (hR.pk (r := old W) pkQ)) (by decide) ?_); clear hS; intro aa ww vv hS hp
 clear hR
 obtain ⟨b2, S2, lim2, rfl, hSe2, hle2, hR⟩ := hp
 obtain rfl : S = S2 := by omega
 obtain rfl : lim = lim2 := by omega
 rw [hTe] at hR
 refine sA hS hR (Yld.assign hS rfl) (by decide) ?_; clear hS; intro aa hS
 refine sA hS hR (Yld.assign hS rfl) (by decide) ?_; clear hS; intro aa hS
 refine wpList_nil ?_
 refine hK571 _ _ ?_
 refine wp_seq_k ?_; intro K572 hK572
 refine wp_seq_k ?_; intro K573 hK573
 refine wp_region_lit ?_
 refine sA hS hR (Yld.move hS rfl) (by decide) ?_; clear hS; intro aa hS
 refine sA hS hR (Yld.eqlNil hS rfl rfl Try.underlying24) (by decide) ?_; clear hS; intro aa hS
 replace hS := hS.sayB (t := 32) false rfl (by rfl)
 refine sA hS hR (Yld.move hS rfl) (by decide) ?_; clear hS; intro aa hS
 refine sAg hS hR rfl rfl (Yld.move hS rfl) (by decide) ?_; clear hS; intro aa hS
 refine sAg hS hR rfl rfl (Yld.eqlNil hS rfl rfl Try.underlying24) (by decide) ?_; clear hS; intro aa hS
 replace hS := hS.sayB (t := 35) false rfl (by rfl)
 refine sA hS hR (Yld.pickF hS rfl rfl) (by decide) ?_; clear hS; intro aa hS
 refine wpList_nil ?_
 refine hK573 _ _ ?_
 refine condF hS rfl ?_
 refine wp_skip ?_
 refine hK572 _ _ ?_
 refine wp_seq_k ?_; intro K574 hK574
 refine wp_region_lit ?_
 refine sA hS hR (Yld.move hS rfl) (by decide) ?_; clear hS; intro aa hS
 refine sA hS hR ((by first | exact Yld.to (Yld.convInt hS rfl rfl Try.underlying3) (congrArg (Value.int .i64) (IntWalk.i64_in _ (by omega))) | exact Yld.convInt hS rfl rfl Try.underlying3)) (by decide) ?_; clear hS; intro aa hS
 refine sA hS hR (Yld.move hS rfl) (by decide) ?_; clear hS; intro aa hS
 refine sA hS hR ((by first | exact Yld.to (Yld.convInt hS rfl rfl Try.underlying3) (congrArg (Value.int .i64) (IntWalk.i64_in _ (by omega))) | exact Yld.convInt hS rfl rfl Try.underlying3)) (by decide) ?_; clear hS; intro aa hS
 refine sA hS hR ((by first | exact Yld.rem64 hS rfl rfl (by omega) | exact Yld.rem hS rfl rfl (by omega))) (by decide) ?_; clear hS; intro aa hS
 refine sA hS hR ((by first | exact Yld.add64 hS rfl rfl (by omega) | exact Yld.add hS rfl rfl)) (by decide) ?_; clear hS; intro aa hS
 replace hS := hS.say (t := 42) (.int .i64 (S : Int)) rfl (by rw [hSe])
 refine sA hS hR ((by first | exact Yld.rem64 hS rfl rfl (by omega) | exact Yld.rem hS rfl rfl (by omega))) (by decide) ?_; clear hS; intro aa hS
 obtain ⟨k, hk, hkS⟩ := emod_nat (n := z) (d := (S : Int)) (m := S) rfl (by omega)
 replace hS := hS.say (t := 43) (.int .i64 (k : Int)) rfl (by rw [hk])
 refine sA hS hR (Yld.assign hS rfl) (by decide) ?_; clear hS; intro aa hS
 refine wpList_nil ?_
 refine hK574 _ _ ?_
 refine wp_seq_k ?_; intro K575 hK575
 refine wp_region_lit ?_
 refine sA hS hR (Yld.move hS rfl) (by decide) ?_; clear hS; intro aa hS
 refine sA hS hR (Yld.move hS rfl) (by decide) ?_; clear hS; intro aa hS
 by_cases hn : ofO T.O (k : Int) = none
 ·
  have hno := hn
  refine sB (Bcall hS rfl Try.call21 (soOf_ok (x := (k : Int)) (hR.pk (r := sourceA _ b _ _ _) pkQ)) (by decide) ?_); clear hS; intro aa ww vv hS hp
  clear hR
  obtain ⟨rfl, hR⟩ := hp
  refine sA hS hR (Yld.move hS rfl) (by decide) ?_; clear hS; intro aa hS
  refine sA hS hR (Yld.extract hS rfl rfl) (by decide) ?_; clear hS; intro aa hS
  refine sA hS hR (Yld.extract hS rfl rfl) (by decide) ?_; clear hS; intro aa hS
  replace hS := hS.sayB (t := 49) false rfl (by rw [hno]; rfl)
  refine sA hS hR (Yld.assign hS rfl) (by decide) ?_; clear hS; intro aa hS
  refine sA hS hR (Yld.assign hS rfl) (by decide) ?_; clear hS; intro aa hS
  refine wpList_nil ?_
  refine hK575 _ _ ?_
  refine wp_seq_k ?_; intro K576 hK576
  refine wp_region_lit ?_
  refine sA hS hR (Yld.move hS rfl) (by decide) ?_; clear hS; intro aa hS
  refine sA hS hR (Yld.move hS rfl) (by decide) ?_; clear hS; intro aa hS
  by_cases hn : (slO T.O ad).length < lim
  ·
   have hfit := hn
   obtain ⟨he1, he2⟩ := opn_ok (S := S) (lim := lim) (a := ad) hkS hno hfit
   obtain ⟨hbk1, hbk2, hbk3⟩ := back_ok hSF had hkS hno hfit
   obtain ⟨hc1, hc2⟩ := cls_ok (S := S) hkS hbk1
   refine sB (Bcall hS rfl Try.call19 (soRoom_ok (a := ad) had (hR.pk (r := sourceA _ b _ _ _) pkQ)) (by decide) ?_); clear hS; intro aa ww vv hS hp
   clear hR
   obtain ⟨rfl, hR⟩ := hp
   refine sA hS hR (Yld.assign hS rfl) (by decide) ?_; clear hS; intro aa hS
   refine wpList_nil ?_
   refine hK576 _ _ ?_
   refine wp_seq_k ?_; intro K577 hK577
   refine wp_region_lit ?_
   refine sA hS hR (Yld.move hS rfl) (by decide) ?_; clear hS; intro aa hS
   refine sA hS hR (Yld.move hS rfl) (by decide) ?_; clear hS; intro aa hS
   refine sA hS hR (Yld.move hS rfl) (by decide) ?_; clear hS; intro aa hS
   refine sB (Bcall hS rfl Try.call17 (soOpen_ok (a := ad) (x := (k : Int)) had (hR.pk (r := sourceA _ b _ _ _) pkQ)) (by decide) ?_); clear hS; intro aa ww vv hS hp
   clear hR
   obtain ⟨rfl, hR⟩ := hp
   rw [he1] at hS; rw [he2] at hR
   refine sA hS hR (Yld.assign hS rfl) (by decide) ?_; clear hS; intro aa hS
   refine wpList_nil ?_
   refine hK577 _ _ ?_
   refine wp_seq_k ?_; intro K578 hK578
   refine wp_seq_k ?_; intro K579 hK579
   refine wp_region_lit ?_
   refine sA hS hR (Yld.move hS rfl) (by decide) ?_; clear hS; intro aa hS
   refine sA hS hR (Yld.move hS rfl) (by decide) ?_; clear hS; intro aa hS
   refine sSkip hS rfl rfl rfl (by decide) ?_; clear hS; intro aa hS
   refine sSkip hS rfl rfl rfl (by decide) ?_; clear hS; intro aa hS
   refine sA hS hR (Yld.pickF hS rfl rfl) (by decide) ?_; clear hS; intro aa hS
   refine sA hS hR (Yld.move hS rfl) (by decide) ?_; clear hS; intro aa hS
   refine sAg hS hR rfl rfl (Yld.move hS rfl) (by decide) ?_; clear hS; intro aa hS
   refine sAg hS hR rfl rfl (Yld.not hS rfl) (by decide) ?_; clear hS; intro aa hS
   refine sAg hS hR rfl rfl (Yld.move hS rfl) (by decide) ?_; clear hS; intro aa hS
   refine sAg hS hR rfl rfl (Yld.move hS rfl) (by decide) ?_; clear hS; intro aa hS
   refine sAg hS hR rfl rfl (Yld.eql hS rfl rfl) (by decide) ?_; clear hS; intro aa hS
   replace hS := hS.sayB (t := 67) true rfl (by simp)
   refine sAg hS hR rfl rfl (Yld.move hS rfl) (by decide) ?_; clear hS; intro aa hS
   refine sAg hS hR rfl rfl (Yld.gtr hS rfl rfl) (by decide) ?_; clear hS; intro aa hS
   replace hS := hS.sayB (t := 69) true rfl (by exact decide_eq_true (by omega))
   refine sAg hS hR rfl rfl (Yld.neqB hS rfl rfl Try.underlying4) (by decide) ?_; clear hS; intro aa hS
   replace hS := hS.sayB (t := 70) false rfl (by rfl)
   refine sAg hS hR rfl rfl (Yld.pickT hS rfl rfl) (by decide) ?_; clear hS; intro aa hS
   refine sA hS hR (Yld.pickF hS rfl rfl) (by decide) ?_; clear hS; intro aa hS
   refine sA hS hR (Yld.move hS rfl) (by decide) ?_; clear hS; intro aa hS
   refine sAg hS hR rfl rfl (Yld.move hS rfl) (by decide) ?_; clear hS; intro aa hS
   refine sAg hS hR rfl rfl (Yld.not hS rfl) (by decide) ?_; clear hS; intro aa hS
   refine sAg hS hR rfl rfl (Yld.move hS rfl) (by decide) ?_; clear hS; intro aa hS
   refine sAg hS hR rfl rfl (Yld.move hS rfl) (by decide) ?_; clear hS; intro aa hS
   refine sAg hS hR rfl rfl (Yld.neq hS rfl rfl) (by decide) ?_; clear hS; intro aa hS
   replace hS := hS.sayB (t := 78) false rfl (by simp)
   refine sAg hS hR rfl rfl (Yld.pickT hS rfl rfl) (by decide) ?_; clear hS; intro aa hS
   refine sAg hS hR rfl rfl (Yld.move hS rfl) (by decide) ?_; clear hS; intro aa hS
   refine sSkip hS rfl rfl rfl (by decide) ?_; clear hS; intro aa hS
   refine sSkip hS rfl rfl rfl (by decide) ?_; clear hS; intro aa hS
   refine sAg hS hR rfl rfl (Yld.pickF hS rfl rfl) (by decide) ?_; clear hS; intro aa hS
   refine sA hS hR (Yld.pickF hS rfl rfl) (by decide) ?_; clear hS; intro aa hS
   refine wpList_nil ?_
   refine hK579 _ _ ?_
   refine condF hS rfl ?_
   refine wp_skip ?_
   refine hK578 _ _ ?_
   refine wp_seq_k ?_; intro K580 hK580
   have tail580 : ∀ (T2 : So) (hO : T2.O = T.O) (hRr : T2.R = T.R) (aa : Act) (ww : World), Has 124 aa [(3, .int .u32 ad), (11, .pointer (some ⟨b, 0, none⟩)), (12, .pointer (some ⟨b2, 0, none⟩)), (16, .int .i64 ((lim : Int) - ((slO T.O ad).length : Int)))] → Sep (sourceA ss b S lim T2 :: sourceA ss b2 S lim T :: old W :: l) ww → K580 aa ww := by
    clear hS hR; intro T2 hO hRr aa ww hS hR
    refine hK580 _ _ ?_
    refine wp_seq_k ?_; intro K581 hK581
    refine wp_seq_k ?_; intro K582 hK582
    refine wp_region_lit ?_
    refine sA hS hR (Yld.move hS rfl) (by decide) ?_; clear hS; intro aa hS
    refine wpList_nil ?_
    refine hK582 _ _ ?_
    refine wp_block ?_
    refine loopI (X := Nat) [(3, _), (11, _), (12, _), (16, _)] (fun x => [(100, .int .u32 (x : Int))]) (fun x => []) _ (fun x => x ≤ 8) (fun x => 8 - x) 0 (Nat.zero_le _) (hS.le (Le.cons rfl (Le.nilapp (Le.cons rfl (Le.cons rfl (Le.cons rfl (Le.cons rfl (Le.nil _)))))))) hR ?_
    clear hS hR; rintro i aa ww hI hS hR; dsimp only [List.cons_append, List.nil_append] at hI hS hR
    refine wp_seq_k ?_; intro K584 hK584
    refine wp_region_lit ?_
    refine sA hS hR (Yld.lss hS rfl rfl) (by decide) ?_; clear hS; intro aa hS
    refine wpList_nil ?_
    refine hK584 _ _ ?_
    refine wp_seq_k ?_; intro K585 hK585
    refine hS.splitB (t := 101) rfl ?_ ?_ <;> clear hS
    ·
     intro hg hS
     refine condT hS rfl ?_
     refine wp_skip ?_
     refine hK585 _ _ ?_
     refine wp_seq_k ?_; intro K586 hK586
     refine wp_block ?_
     refine wp_seq_k ?_; intro K587 hK587
     refine wp_region_lit ?_
     refine sA hS hR (Yld.move hS rfl) (by decide) ?_; clear hS; intro aa hS
     refine sA hS hR (Yld.assign hS rfl) (by decide) ?_; clear hS; intro aa hS
     refine wpList_nil ?_
     refine hK587 _ _ ?_
     refine wp_seq_k ?_; intro K588 hK588
     refine wp_region_lit ?_
     refine sA hS hR (Yld.move hS rfl) (by decide) ?_; clear hS; intro aa hS
     refine sA hS hR (Yld.move hS rfl) (by decide) ?_; clear hS; intro aa hS
     refine sB (Bcall hS rfl Try.call22 (soSlots_ok (a := (i : Int)) (by omega) (hR.pk (r := sourceA _ b _ _ _) pkQ)) (by decide) ?_); clear hS; intro aa ww vv hS hp
     clear hR
     obtain ⟨ra, ca, rfl, hR⟩ := hp
     rw [hO] at hS hR
     refine sA hS hR (Yld.move hS rfl) (by decide) ?_; clear hS; intro aa hS
     refine sA hS hR (Yld.move hS rfl) (by decide) ?_; clear hS; intro aa hS
     refine sB (Bcall hS rfl Try.call22 (soSlots_ok (a := (i : Int)) (by omega) (hR.pk (r := sourceA _ b2 _ _ _) pkQ)) (by decide) ?_); clear hS; intro aa ww vv hS hp
     clear hR
     obtain ⟨rb, cb, rfl, hR⟩ := hp
     have hsli := hsl1 (i : Int)
     refine sB (Bcall hS rfl Try.call26 (eqI_ok (q1 := ra) (q2 := rb) (by rw [cst_len]; omega) (by rw [cst_len]; omega) ((hR.pk (r := sls rb _ _ _ _ _) pkQ).pk (r := sls ra _ _ _ _ _) pkQ)) (by decide) ?_); clear hS; intro aa ww vv hS hp
     clear hR
     obtain ⟨rfl, hR⟩ := hp
     rw [decide_eq_true rfl] at hS
     refine sA hS hR (Yld.not hS rfl) (by decide) ?_; clear hS; intro aa hS
     replace hS := hS.sayB (t := 110) false rfl (by rfl)
     refine wpList_nil ?_
     refine hK588 _ _ ?_
     refine condF hS rfl ?_
     refine wp_skip ?_
     refine hK586 _ _ ?_
     refine wp_region_lit ?_
     refine sA hS hR ((by first | exact Yld.to (Yld.add hS rfl rfl) (congrArg (Value.int .u32) (IntWalk.u32_in _ (by omega))) | exact Yld.add hS rfl rfl)) (by decide) ?_; clear hS; intro aa hS
     refine sA hS hR (Yld.move hS rfl) (by decide) ?_; clear hS; intro aa hS
     refine wpList_nil ?_
     
     refine ⟨i + 1, ?_, ?_, hS.le (Le.cons rfl (Le.nilapp (Le.cons rfl (Le.cons rfl (Le.cons rfl (Le.cons rfl (Le.nil _))))))), hR.sub (Ex.nilapp exQ)⟩
     ·
      omega
     ·
      omega
    ·
     intro hg hS
     refine condF hS rfl ?_
     refine wp_exit ?_
     refine hK581 _ _ ?_
     refine wp_seq_k ?_; intro K589 hK589
     refine wp_region_lit ?_
     refine sA hS hR (Yld.move hS rfl) (by decide) ?_; clear hS; intro aa hS
     refine sB (Bcall hS rfl Try.call23 (soAll_ok (hR.pk (r := sourceA _ b _ _ _) pkQ)) (by decide) ?_); clear hS; intro aa ww vv hS hp
     clear hR
     obtain ⟨ra, ca, rfl, hR⟩ := hp
     rw [hRr] at hS hR
     refine sA hS hR (Yld.move hS rfl) (by decide) ?_; clear hS; intro aa hS
     refine sB (Bcall hS rfl Try.call23 (soAll_ok (hR.pk (r := sourceA _ b2 _ _ _) pkQ)) (by decide) ?_); clear hS; intro aa ww vv hS hp
     clear hR
     obtain ⟨rb, cb, rfl, hR⟩ := hp
     have hall := hSF.allLen
     refine sB (Bcall hS rfl Try.call27 (eqU_ok (q1 := ra) (q2 := rb) (by omega) (by omega) ((hR.pk (r := sls rb _ _ _ _ _) pkQ).pk (r := sls ra _ _ _ _ _) pkQ)) (by decide) ?_); clear hS; intro aa ww vv hS hp
     clear hR
     obtain ⟨rfl, hR⟩ := hp
     rw [decide_eq_true rfl] at hS
     replace hS := hS.sayB (t := 116) true rfl (by rfl)
     refine sA hS hR (Yld.move hS rfl) (by decide) ?_; clear hS; intro aa hS
     refine sAg hS hR rfl rfl (Yld.move hS rfl) (by decide) ?_; clear hS; intro aa hS
     refine sAg hS hR rfl rfl (Yld.move hS rfl) (by decide) ?_; clear hS; intro aa hS
     refine sBg hS rfl rfl (Bcall hS rfl Try.call19 (soRoom_ok (a := ad) had (hR.pk (r := sourceA _ b _ _ _) pkQ)) (by decide) ?_); clear hS; intro aa ww vv hS hp
     clear hR
     obtain ⟨rfl, hR⟩ := hp
     refine sAg hS hR rfl rfl (Yld.move hS rfl) (by decide) ?_; clear hS; intro aa hS
     refine sAg hS hR rfl rfl (Yld.eql hS rfl rfl) (by decide) ?_; clear hS; intro aa hS
     replace hS := hS.sayB (t := 122) true rfl (by simp [hO])
     refine sA hS hR (Yld.pickT hS rfl rfl) (by decide) ?_; clear hS; intro aa hS
     refine sA hS hR (Yld.assign hS rfl) (by decide) ?_; clear hS; intro aa hS
     refine wpList_nil ?_
     refine hK589 _ _ ?_
     refine wp_ret ?_
     repeat (first | with_reducible refine thenR ?_ | with_reducible refine blockR ?_ | with_reducible refine scopeR ?_)
     refine ret1 (fn := Try.f7) (e := .ret) (.inl rfl) Try.results7 hS hR ⟨_, (.tmp rfl), ?_⟩
     exact ⟨rfl, (hR.sub exQ)⟩
   refine wp_seq_k ?_; intro K590 hK590
   refine wp_region_lit ?_
   refine sA hS hR (Yld.move hS rfl) (by decide) ?_; clear hS; intro aa hS
   refine sA hS hR (Yld.eql hS rfl rfl) (by decide) ?_; clear hS; intro aa hS
   replace hS := hS.sayB (t := 86) true rfl (by simp)
   refine wpList_nil ?_
   refine hK590 _ _ ?_
   refine condT hS rfl ?_
   refine wp_seq_k ?_; intro K591 hK591
   refine wp_region_lit ?_
   refine sA hS hR (Yld.move hS rfl) (by decide) ?_; clear hS; intro aa hS
   refine sA hS hR (Yld.move hS rfl) (by decide) ?_; clear hS; intro aa hS
   refine sB (Bcall hS rfl Try.call20 (soClose_ok (x := (k : Int)) (hR.pk (r := sourceA _ b _ _ _) pkQ)) (by decide) ?_); clear hS; intro aa ww vv hS hp
   clear hR
   obtain ⟨rfl, hR⟩ := hp
   rw [hc1, hbk1] at hS; dsimp only [Option.getD] at hS
   refine sA hS hR (Yld.move hS rfl) (by decide) ?_; clear hS; intro aa hS
   refine sA hS hR (Yld.extract hS rfl rfl) (by decide) ?_; clear hS; intro aa hS
   refine sA hS hR (Yld.extract hS rfl rfl) (by decide) ?_; clear hS; intro aa hS
   refine sA hS hR (Yld.assign hS rfl) (by decide) ?_; clear hS; intro aa hS
   refine sA hS hR (Yld.assign hS rfl) (by decide) ?_; clear hS; intro aa hS
   refine wpList_nil ?_
   refine hK591 _ _ ?_
   refine wp_seq_k ?_; intro K592 hK592
   refine wp_region_lit ?_
   refine sA hS hR (Yld.move hS rfl) (by decide) ?_; clear hS; intro aa hS
   refine sA hS hR (Yld.neq hS rfl rfl) (by decide) ?_; clear hS; intro aa hS
   replace hS := hS.sayB (t := 94) false rfl (by simp)
   refine sA hS hR (Yld.move hS rfl) (by decide) ?_; clear hS; intro aa hS
   refine sAg hS hR rfl rfl (Yld.move hS rfl) (by decide) ?_; clear hS; intro aa hS
   refine sAg hS hR rfl rfl (Yld.move hS rfl) (by decide) ?_; clear hS; intro aa hS
   refine sAg hS hR rfl rfl (Yld.neq hS rfl rfl) (by decide) ?_; clear hS; intro aa hS
   replace hS := hS.sayB (t := 98) false rfl (by simp)
   refine sA hS hR (Yld.pickF hS rfl rfl) (by decide) ?_; clear hS; intro aa hS
   refine wpList_nil ?_
   refine hK592 _ _ ?_
   refine condF hS rfl ?_
   refine wp_skip ?_
   exact tail580 (clsN (addO T ad k) (k : Int)) hbk2 hbk3 _ _ (hS.le (Le.cons rfl (Le.cons rfl (Le.cons rfl (Le.cons rfl (Le.nil _)))))) (hR.sub exQ)
  ·
   obtain ⟨he1, he2⟩ := opn_full (S := S) (lim := lim) (a := ad) (by omega) hno (Nat.le_of_not_lt hn)
   refine sB (Bcall hS rfl Try.call19 (soRoom_ok (a := ad) had (hR.pk (r := sourceA _ b _ _ _) pkQ)) (by decide) ?_); clear hS; intro aa ww vv hS hp
   clear hR
   obtain ⟨rfl, hR⟩ := hp
   refine sA hS hR (Yld.assign hS rfl) (by decide) ?_; clear hS; intro aa hS
   refine wpList_nil ?_
   refine hK576 _ _ ?_
   refine wp_seq_k ?_; intro K593 hK593
   refine wp_region_lit ?_
   refine sA hS hR (Yld.move hS rfl) (by decide) ?_; clear hS; intro aa hS
   refine sA hS hR (Yld.move hS rfl) (by decide) ?_; clear hS; intro aa hS
   refine sA hS hR (Yld.move hS rfl) (by decide) ?_; clear hS; intro aa hS
   refine sB (Bcall hS rfl Try.call17 (soOpen_ok (a := ad) (x := (k : Int)) had (hR.pk (r := sourceA _ b _ _ _) pkQ)) (by decide) ?_); clear hS; intro aa ww vv hS hp
   clear hR
   obtain ⟨rfl, hR⟩ := hp
   rw [he1] at hS; rw [he2] at hR
   refine sA hS hR (Yld.assign hS rfl) (by decide) ?_; clear hS; intro aa hS
   refine wpList_nil ?_
   refine hK593 _ _ ?_
   refine wp_seq_k ?_; intro K594 hK594
   refine wp_seq_k ?_; intro K595 hK595
   refine wp_region_lit ?_
   refine sA hS hR (Yld.move hS rfl) (by decide) ?_; clear hS; intro aa hS
   refine sA hS hR (Yld.move hS rfl) (by decide) ?_; clear hS; intro aa hS
   refine sSkip hS rfl rfl rfl (by decide) ?_; clear hS; intro aa hS
   refine sSkip hS rfl rfl rfl (by decide) ?_; clear hS; intro aa hS
   refine sA hS hR (Yld.pickF hS rfl rfl) (by decide) ?_; clear hS; intro aa hS
   refine sA hS hR (Yld.move hS rfl) (by decide) ?_; clear hS; intro aa hS
   refine sAg hS hR rfl rfl (Yld.move hS rfl) (by decide) ?_; clear hS; intro aa hS
   refine sAg hS hR rfl rfl (Yld.not hS rfl) (by decide) ?_; clear hS; intro aa hS
   refine sAg hS hR rfl rfl (Yld.move hS rfl) (by decide) ?_; clear hS; intro aa hS
   refine sAg hS hR rfl rfl (Yld.move hS rfl) (by decide) ?_; clear hS; intro aa hS
   refine sAg hS hR rfl rfl (Yld.eql hS rfl rfl) (by decide) ?_; clear hS; intro aa hS
   replace hS := hS.sayB (t := 67) false rfl (by simp)
   refine sAg hS hR rfl rfl (Yld.move hS rfl) (by decide) ?_; clear hS; intro aa hS
   refine sAg hS hR rfl rfl (Yld.gtr hS rfl rfl) (by decide) ?_; clear hS; intro aa hS
   replace hS := hS.sayB (t := 69) false rfl (by exact decide_eq_false (by omega))
   refine sAg hS hR rfl rfl (Yld.neqB hS rfl rfl Try.underlying4) (by decide) ?_; clear hS; intro aa hS
   replace hS := hS.sayB (t := 70) false rfl (by rfl)
   refine sAg hS hR rfl rfl (Yld.pickT hS rfl rfl) (by decide) ?_; clear hS; intro aa hS
   refine sA hS hR (Yld.pickF hS rfl rfl) (by decide) ?_; clear hS; intro aa hS
   refine sA hS hR (Yld.move hS rfl) (by decide) ?_; clear hS; intro aa hS
   refine sAg hS hR rfl rfl (Yld.move hS rfl) (by decide) ?_; clear hS; intro aa hS
   refine sAg hS hR rfl rfl (Yld.not hS rfl) (by decide) ?_; clear hS; intro aa hS
   refine sAg hS hR rfl rfl (Yld.move hS rfl) (by decide) ?_; clear hS; intro aa hS
   refine sAg hS hR rfl rfl (Yld.move hS rfl) (by decide) ?_; clear hS; intro aa hS
   refine sAg hS hR rfl rfl (Yld.neq hS rfl rfl) (by decide) ?_; clear hS; intro aa hS
   replace hS := hS.sayB (t := 78) true rfl (by simp)
   refine sAg hS hR rfl rfl (Yld.pickT hS rfl rfl) (by decide) ?_; clear hS; intro aa hS
   refine sAg hS hR rfl rfl (Yld.move hS rfl) (by decide) ?_; clear hS; intro aa hS
   refine sAg hS hR rfl rfl (Yld.move hS rfl) (by decide) ?_; clear hS; intro aa hS
   refine sAg hS hR rfl rfl (Yld.neq hS rfl rfl) (by decide) ?_; clear hS; intro aa hS
   replace hS := hS.sayB (t := 82) false rfl (by simp)
   refine sAg hS hR rfl rfl (Yld.pickT hS rfl rfl) (by decide) ?_; clear hS; intro aa hS
   refine sA hS hR (Yld.pickF hS rfl rfl) (by decide) ?_; clear hS; intro aa hS
   refine wpList_nil ?_
   refine hK595 _ _ ?_
   refine condF hS rfl ?_
   refine wp_skip ?_
   refine hK594 _ _ ?_
   refine wp_seq_k ?_; intro K596 hK596
   have tail596 : ∀ (T2 : So) (hO : T2.O = T.O) (hRr : T2.R = T.R) (aa : Act) (ww : World), Has 124 aa [(3, .int .u32 ad), (11, .pointer (some ⟨b, 0, none⟩)), (12, .pointer (some ⟨b2, 0, none⟩)), (16, .int .i64 ((lim : Int) - ((slO T.O ad).length : Int)))] → Sep (sourceA ss b S lim T2 :: sourceA ss b2 S lim T :: old W :: l) ww → K596 aa ww := by
    clear hS hR; intro T2 hO hRr aa ww hS hR
    refine hK596 _ _ ?_
    refine wp_seq_k ?_; intro K597 hK597
    refine wp_seq_k ?_; intro K598 hK598
    refine wp_region_lit ?_
    refine sA hS hR (Yld.move hS rfl) (by decide) ?_; clear hS; intro aa hS
    refine wpList_nil ?_
    refine hK598 _ _ ?_
    refine wp_block ?_
    refine loopI (X := Nat) [(3, _), (11, _), (12, _), (16, _)] (fun x => [(100, .int .u32 (x : Int))]) (fun x => []) _ (fun x => x ≤ 8) (fun x => 8 - x) 0 (Nat.zero_le _) (hS.le (Le.cons rfl (Le.nilapp (Le.cons rfl (Le.cons rfl (Le.cons rfl (Le.cons rfl (Le.nil _)))))))) hR ?_
    clear hS hR; rintro i aa ww hI hS hR; dsimp only [List.cons_append, List.nil_append] at hI hS hR
    refine wp_seq_k ?_; intro K600 hK600
    refine wp_region_lit ?_
    refine sA hS hR (Yld.lss hS rfl rfl) (by decide) ?_; clear hS; intro aa hS
    refine wpList_nil ?_
    refine hK600 _ _ ?_
    refine wp_seq_k ?_; intro K601 hK601
    refine hS.splitB (t := 101) rfl ?_ ?_ <;> clear hS
    ·
     intro hg hS
     refine condT hS rfl ?_
     refine wp_skip ?_
     refine hK601 _ _ ?_
     refine wp_seq_k ?_; intro K602 hK602
     refine wp_block ?_
     refine wp_seq_k ?_; intro K603 hK603
     refine wp_region_lit ?_
     refine sA hS hR (Yld.move hS rfl) (by decide) ?_; clear hS; intro aa hS
     refine sA hS hR (Yld.assign hS rfl) (by decide) ?_; clear hS; intro aa hS
     refine wpList_nil ?_
     refine hK603 _ _ ?_
     refine wp_seq_k ?_; intro K604 hK604
     refine wp_region_lit ?_
     refine sA hS hR (Yld.move hS rfl) (by decide) ?_; clear hS; intro aa hS
     refine sA hS hR (Yld.move hS rfl) (by decide) ?_; clear hS; intro aa hS
     refine sB (Bcall hS rfl Try.call22 (soSlots_ok (a := (i : Int)) (by omega) (hR.pk (r := sourceA _ b _ _ _) pkQ)) (by decide) ?_); clear hS; intro aa ww vv hS hp
     clear hR
     obtain ⟨ra, ca, rfl, hR⟩ := hp
     rw [hO] at hS hR
     refine sA hS hR (Yld.move hS rfl) (by decide) ?_; clear hS; intro aa hS
     refine sA hS hR (Yld.move hS rfl) (by decide) ?_; clear hS; intro aa hS
     refine sB (Bcall hS rfl Try.call22 (soSlots_ok (a := (i : Int)) (by omega) (hR.pk (r := sourceA _ b2 _ _ _) pkQ)) (by decide) ?_); clear hS; intro aa ww vv hS hp
     clear hR
     obtain ⟨rb, cb, rfl, hR⟩ := hp
     have hsli := hsl1 (i : Int)
     refine sB (Bcall hS rfl Try.call26 (eqI_ok (q1 := ra) (q2 := rb) (by rw [cst_len]; omega) (by rw [cst_len]; omega) ((hR.pk (r := sls rb _ _ _ _ _) pkQ).pk (r := sls ra _ _ _ _ _) pkQ)) (by decide) ?_); clear hS; intro aa ww vv hS hp
     clear hR
     obtain ⟨rfl, hR⟩ := hp
     rw [decide_eq_true rfl] at hS
     refine sA hS hR (Yld.not hS rfl) (by decide) ?_; clear hS; intro aa hS
     replace hS := hS.sayB (t := 110) false rfl (by rfl)
     refine wpList_nil ?_
     refine hK604 _ _ ?_
     refine condF hS rfl ?_
     refine wp_skip ?_
     refine hK602 _ _ ?_
     refine wp_region_lit ?_
     refine sA hS hR ((by first | exact Yld.to (Yld.add hS rfl rfl) (congrArg (Value.int .u32) (IntWalk.u32_in _ (by omega))) | exact Yld.add hS rfl rfl)) (by decide) ?_; clear hS; intro aa hS
     refine sA hS hR (Yld.move hS rfl) (by decide) ?_; clear hS; intro aa hS
     refine wpList_nil ?_
     
     refine ⟨i + 1, ?_, ?_, hS.le (Le.cons rfl (Le.nilapp (Le.cons rfl (Le.cons rfl (Le.cons rfl (Le.cons rfl (Le.nil _))))))), hR.sub (Ex.nilapp exQ)⟩
     ·
      omega
     ·
      omega
    ·
     intro hg hS
     refine condF hS rfl ?_
     refine wp_exit ?_
     refine hK597 _ _ ?_
     refine wp_seq_k ?_; intro K605 hK605
     refine wp_region_lit ?_
     refine sA hS hR (Yld.move hS rfl) (by decide) ?_; clear hS; intro aa hS
     refine sB (Bcall hS rfl Try.call23 (soAll_ok (hR.pk (r := sourceA _ b _ _ _) pkQ)) (by decide) ?_); clear hS; intro aa ww vv hS hp
     clear hR
     obtain ⟨ra, ca, rfl, hR⟩ := hp
     rw [hRr] at hS hR
     refine sA hS hR (Yld.move hS rfl) (by decide) ?_; clear hS; intro aa hS
     refine sB (Bcall hS rfl Try.call23 (soAll_ok (hR.pk (r := sourceA _ b2 _ _ _) pkQ)) (by decide) ?_); clear hS; intro aa ww vv hS hp
     clear hR
     obtain ⟨rb, cb, rfl, hR⟩ := hp
     have hall := hSF.allLen
     refine sB (Bcall hS rfl Try.call27 (eqU_ok (q1 := ra) (q2 := rb) (by omega) (by omega) ((hR.pk (r := sls rb _ _ _ _ _) pkQ).pk (r := sls ra _ _ _ _ _) pkQ)) (by decide) ?_); clear hS; intro aa ww vv hS hp
     clear hR
     obtain ⟨rfl, hR⟩ := hp
     rw [decide_eq_true rfl] at hS
     replace hS := hS.sayB (t := 116) true rfl (by rfl)
     refine sA hS hR (Yld.move hS rfl) (by decide) ?_; clear hS; intro aa hS
     refine sAg hS hR rfl rfl (Yld.move hS rfl) (by decide) ?_; clear hS; intro aa hS
     refine sAg hS hR rfl rfl (Yld.move hS rfl) (by decide) ?_; clear hS; intro aa hS
     refine sBg hS rfl rfl (Bcall hS rfl Try.call19 (soRoom_ok (a := ad) had (hR.pk (r := sourceA _ b _ _ _) pkQ)) (by decide) ?_); clear hS; intro aa ww vv hS hp
     clear hR
     obtain ⟨rfl, hR⟩ := hp
     refine sAg hS hR rfl rfl (Yld.move hS rfl) (by decide) ?_; clear hS; intro aa hS
     refine sAg hS hR rfl rfl (Yld.eql hS rfl rfl) (by decide) ?_; clear hS; intro aa hS
     replace hS := hS.sayB (t := 122) true rfl (by simp [hO])
     refine sA hS hR (Yld.pickT hS rfl rfl) (by decide) ?_; clear hS; intro aa hS
     refine sA hS hR (Yld.assign hS rfl) (by decide) ?_; clear hS; intro aa hS
     refine wpList_nil ?_
     refine hK605 _ _ ?_
     refine wp_ret ?_
     repeat (first | with_reducible refine thenR ?_ | with_reducible refine blockR ?_ | with_reducible refine scopeR ?_)
     refine ret1 (fn := Try.f7) (e := .ret) (.inl rfl) Try.results7 hS hR ⟨_, (.tmp rfl), ?_⟩
     exact ⟨rfl, (hR.sub exQ)⟩
   refine wp_seq_k ?_; intro K606 hK606
   refine wp_region_lit ?_
   refine sA hS hR (Yld.move hS rfl) (by decide) ?_; clear hS; intro aa hS
   refine sA hS hR (Yld.eql hS rfl rfl) (by decide) ?_; clear hS; intro aa hS
   replace hS := hS.sayB (t := 86) false rfl (by simp)
   refine wpList_nil ?_
   refine hK606 _ _ ?_
   refine condF hS rfl ?_
   refine wp_skip ?_
   exact tail596 T rfl rfl _ _ (hS.le (Le.cons rfl (Le.cons rfl (Le.cons rfl (Le.cons rfl (Le.nil _)))))) (hR.sub exQ)
 ·
  obtain ⟨o, hoo⟩ : ∃ o, ofO T.O (k : Int) = some o := by
   cases hv : ofO T.O (k : Int) with
   | none => exact absurd hv hn
   | some o => exact ⟨o, rfl⟩
  obtain ⟨he1, he2⟩ := opn_there (S := S) (lim := lim) (a := ad) (by omega) hoo
  refine sB (Bcall hS rfl Try.call21 (soOf_ok (x := (k : Int)) (hR.pk (r := sourceA _ b _ _ _) pkQ)) (by decide) ?_); clear hS; intro aa ww vv hS hp
  clear hR
  obtain ⟨rfl, hR⟩ := hp
  refine sA hS hR (Yld.move hS rfl) (by decide) ?_; clear hS; intro aa hS
  refine sA hS hR (Yld.extract hS rfl rfl) (by decide) ?_; clear hS; intro aa hS
  refine sA hS hR (Yld.extract hS rfl rfl) (by decide) ?_; clear hS; intro aa hS
  replace hS := hS.sayB (t := 49) true rfl (by rw [hoo]; rfl)
  refine sA hS hR (Yld.assign hS rfl) (by decide) ?_; clear hS; intro aa hS
  refine sA hS hR (Yld.assign hS rfl) (by decide) ?_; clear hS; intro aa hS
  refine wpList_nil ?_
  refine hK575 _ _ ?_
  refine wp_seq_k ?_; intro K607 hK607
  refine wp_region_lit ?_
  refine sA hS hR (Yld.move hS rfl) (by decide) ?_; clear hS; intro aa hS
  refine sA hS hR (Yld.move hS rfl) (by decide) ?_; clear hS; intro aa hS
  by_cases hn : (slO T.O ad).length < lim
  ·
   refine sB (Bcall hS rfl Try.call19 (soRoom_ok (a := ad) had (hR.pk (r := sourceA _ b _ _ _) pkQ)) (by decide) ?_); clear hS; intro aa ww vv hS hp
   clear hR
   obtain ⟨rfl, hR⟩ := hp
   refine sA hS hR (Yld.assign hS rfl) (by decide) ?_; clear hS; intro aa hS
   refine wpList_nil ?_
   refine hK607 _ _ ?_
   refine wp_seq_k ?_; intro K608 hK608
   refine wp_region_lit ?_
   refine sA hS hR (Yld.move hS rfl) (by decide) ?_; clear hS; intro aa hS
   refine sA hS hR (Yld.move hS rfl) (by decide) ?_; clear hS; intro aa hS
   refine sA hS hR (Yld.move hS rfl) (by decide) ?_; clear hS; intro aa hS
   refine sB (Bcall hS rfl Try.call17 (soOpen_ok (a := ad) (x := (k : Int)) had (hR.pk (r := sourceA _ b _ _ _) pkQ)) (by decide) ?_); clear hS; intro aa ww vv hS hp
   clear hR
   obtain ⟨rfl, hR⟩ := hp
   rw [he1] at hS; rw [he2] at hR
   refine sA hS hR (Yld.assign hS rfl) (by decide) ?_; clear hS; intro aa hS
   refine wpList_nil ?_
   refine hK608 _ _ ?_
   refine wp_seq_k ?_; intro K609 hK609
   refine wp_seq_k ?_; intro K610 hK610
   refine wp_region_lit ?_
   refine sA hS hR (Yld.move hS rfl) (by decide) ?_; clear hS; intro aa hS
   refine sA hS hR (Yld.move hS rfl) (by decide) ?_; clear hS; intro aa hS
   refine sAg hS hR rfl rfl (Yld.move hS rfl) (by decide) ?_; clear hS; intro aa hS
   refine sAg hS hR rfl rfl (Yld.neq hS rfl rfl) (by decide) ?_; clear hS; intro aa hS
   replace hS := hS.sayB (t := 60) false rfl (by simp)
   refine sA hS hR (Yld.pickT hS rfl rfl) (by decide) ?_; clear hS; intro aa hS
   refine sA hS hR (Yld.move hS rfl) (by decide) ?_; clear hS; intro aa hS
   refine sAg hS hR rfl rfl (Yld.move hS rfl) (by decide) ?_; clear hS; intro aa hS
   refine sAg hS hR rfl rfl (Yld.not hS rfl) (by decide) ?_; clear hS; intro aa hS
   refine sAg hS hR rfl rfl (Yld.move hS rfl) (by decide) ?_; clear hS; intro aa hS
   refine sSkip hS rfl rfl rfl (by decide) ?_; clear hS; intro aa hS
   refine sSkip hS rfl rfl rfl (by decide) ?_; clear hS; intro aa hS
   refine sSkip hS rfl rfl rfl (by decide) ?_; clear hS; intro aa hS
   refine sSkip hS rfl rfl rfl (by decide) ?_; clear hS; intro aa hS
   refine sSkip hS rfl rfl rfl (by decide) ?_; clear hS; intro aa hS
   refine sAg hS hR rfl rfl (Yld.pickF hS rfl rfl) (by decide) ?_; clear hS; intro aa hS
   refine sA hS hR (Yld.pickF hS rfl rfl) (by decide) ?_; clear hS; intro aa hS
   refine sA hS hR (Yld.move hS rfl) (by decide) ?_; clear hS; intro aa hS
   refine sAg hS hR rfl rfl (Yld.move hS rfl) (by decide) ?_; clear hS; intro aa hS
   refine sAg hS hR rfl rfl (Yld.not hS rfl) (by decide) ?_; clear hS; intro aa hS
   refine sAg hS hR rfl rfl (Yld.move hS rfl) (by decide) ?_; clear hS; intro aa hS
   refine sSkip hS rfl rfl rfl (by decide) ?_; clear hS; intro aa hS
   refine sSkip hS rfl rfl rfl (by decide) ?_; clear hS; intro aa hS
   refine sAg hS hR rfl rfl (Yld.pickF hS rfl rfl) (by decide) ?_; clear hS; intro aa hS
   refine sAg hS hR rfl rfl (Yld.move hS rfl) (by decide) ?_; clear hS; intro aa hS
   refine sSkip hS rfl rfl rfl (by decide) ?_; clear hS; intro aa hS
   refine sSkip hS rfl rfl rfl (by decide) ?_; clear hS; intro aa hS
   refine sAg hS hR rfl rfl (Yld.pickF hS rfl rfl) (by decide) ?_; clear hS; intro aa hS
   refine sA hS hR (Yld.pickF hS rfl rfl) (by decide) ?_; clear hS; intro aa hS
   refine wpList_nil ?_
   refine hK610 _ _ ?_
   refine condF hS rfl ?_
   refine wp_skip ?_
   refine hK609 _ _ ?_
   refine wp_seq_k ?_; intro K611 hK611
   have tail611 : ∀ (T2 : So) (hO : T2.O = T.O) (hRr : T2.R = T.R) (aa : Act) (ww : World), Has 124 aa [(3, .int .u32 ad), (11, .pointer (some ⟨b, 0, none⟩)), (12, .pointer (some ⟨b2, 0, none⟩)), (16, .int .i64 ((lim : Int) - ((slO T.O ad).length : Int)))] → Sep (sourceA ss b S lim T2 :: sourceA ss b2 S lim T :: old W :: l) ww → K611 aa ww := by
    clear hS hR; intro T2 hO hRr aa ww hS hR
    refine hK611 _ _ ?_
    refine wp_seq_k ?_; intro K612 hK612
    refine wp_seq_k ?_; intro K613 hK613
    refine wp_region_lit ?_
    refine sA hS hR (Yld.move hS rfl) (by decide) ?_; clear hS; intro aa hS
    refine wpList_nil ?_
    refine hK613 _ _ ?_
    refine wp_block ?_
    refine loopI (X := Nat) [(3, _), (11, _), (12, _), (16, _)] (fun x => [(100, .int .u32 (x : Int))]) (fun x => []) _ (fun x => x ≤ 8) (fun x => 8 - x) 0 (Nat.zero_le _) (hS.le (Le.cons rfl (Le.nilapp (Le.cons rfl (Le.cons rfl (Le.cons rfl (Le.cons rfl (Le.nil _)))))))) hR ?_
    clear hS hR; rintro i aa ww hI hS hR; dsimp only [List.cons_append, List.nil_append] at hI hS hR
    refine wp_seq_k ?_; intro K615 hK615
    refine wp_region_lit ?_
    refine sA hS hR (Yld.lss hS rfl rfl) (by decide) ?_; clear hS; intro aa hS
    refine wpList_nil ?_
    refine hK615 _ _ ?_
    refine wp_seq_k ?_; intro K616 hK616
    refine hS.splitB (t := 101) rfl ?_ ?_ <;> clear hS
    ·
     intro hg hS
     refine condT hS rfl ?_
     refine wp_skip ?_
     refine hK616 _ _ ?_
     refine wp_seq_k ?_; intro K617 hK617
     refine wp_block ?_
     refine wp_seq_k ?_; intro K618 hK618
     refine wp_region_lit ?_
     refine sA hS hR (Yld.move hS rfl) (by decide) ?_; clear hS; intro aa hS
     refine sA hS hR (Yld.assign hS rfl) (by decide) ?_; clear hS; intro aa hS
     refine wpList_nil ?_
     refine hK618 _ _ ?_
     refine wp_seq_k ?_; intro K619 hK619
     refine wp_region_lit ?_
     refine sA hS hR (Yld.move hS rfl) (by decide) ?_; clear hS; intro aa hS
     refine sA hS hR (Yld.move hS rfl) (by decide) ?_; clear hS; intro aa hS
     refine sB (Bcall hS rfl Try.call22 (soSlots_ok (a := (i : Int)) (by omega) (hR.pk (r := sourceA _ b _ _ _) pkQ)) (by decide) ?_); clear hS; intro aa ww vv hS hp
     clear hR
     obtain ⟨ra, ca, rfl, hR⟩ := hp
     rw [hO] at hS hR
     refine sA hS hR (Yld.move hS rfl) (by decide) ?_; clear hS; intro aa hS
     refine sA hS hR (Yld.move hS rfl) (by decide) ?_; clear hS; intro aa hS
     refine sB (Bcall hS rfl Try.call22 (soSlots_ok (a := (i : Int)) (by omega) (hR.pk (r := sourceA _ b2 _ _ _) pkQ)) (by decide) ?_); clear hS; intro aa ww vv hS hp
     clear hR
     obtain ⟨rb, cb, rfl, hR⟩ := hp
     have hsli := hsl1 (i : Int)
     refine sB (Bcall hS rfl Try.call26 (eqI_ok (q1 := ra) (q2 := rb) (by rw [cst_len]; omega) (by rw [cst_len]; omega) ((hR.pk (r := sls rb _ _ _ _ _) pkQ).pk (r := sls ra _ _ _ _ _) pkQ)) (by decide) ?_); clear hS; intro aa ww vv hS hp
     clear hR
     obtain ⟨rfl, hR⟩ := hp
     rw [decide_eq_true rfl] at hS
     refine sA hS hR (Yld.not hS rfl) (by decide) ?_; clear hS; intro aa hS
     replace hS := hS.sayB (t := 110) false rfl (by rfl)
     refine wpList_nil ?_
     refine hK619 _ _ ?_
     refine condF hS rfl ?_
     refine wp_skip ?_
     refine hK617 _ _ ?_
     refine wp_region_lit ?_
     refine sA hS hR ((by first | exact Yld.to (Yld.add hS rfl rfl) (congrArg (Value.int .u32) (IntWalk.u32_in _ (by omega))) | exact Yld.add hS rfl rfl)) (by decide) ?_; clear hS; intro aa hS
     refine sA hS hR (Yld.move hS rfl) (by decide) ?_; clear hS; intro aa hS
     refine wpList_nil ?_
     
     refine ⟨i + 1, ?_, ?_, hS.le (Le.cons rfl (Le.nilapp (Le.cons rfl (Le.cons rfl (Le.cons rfl (Le.cons rfl (Le.nil _))))))), hR.sub (Ex.nilapp exQ)⟩
     ·
      omega
     ·
      omega
    ·
     intro hg hS
     refine condF hS rfl ?_
     refine wp_exit ?_
     refine hK612 _ _ ?_
     refine wp_seq_k ?_; intro K620 hK620
     refine wp_region_lit ?_
     refine sA hS hR (Yld.move hS rfl) (by decide) ?_; clear hS; intro aa hS
     refine sB (Bcall hS rfl Try.call23 (soAll_ok (hR.pk (r := sourceA _ b _ _ _) pkQ)) (by decide) ?_); clear hS; intro aa ww vv hS hp
     clear hR
     obtain ⟨ra, ca, rfl, hR⟩ := hp
     rw [hRr] at hS hR
     refine sA hS hR (Yld.move hS rfl) (by decide) ?_; clear hS; intro aa hS
     refine sB (Bcall hS rfl Try.call23 (soAll_ok (hR.pk (r := sourceA _ b2 _ _ _) pkQ)) (by decide) ?_); clear hS; intro aa ww vv hS hp
     clear hR
     obtain ⟨rb, cb, rfl, hR⟩ := hp
     have hall := hSF.allLen
     refine sB (Bcall hS rfl Try.call27 (eqU_ok (q1 := ra) (q2 := rb) (by omega) (by omega) ((hR.pk (r := sls rb _ _ _ _ _) pkQ).pk (r := sls ra _ _ _ _ _) pkQ)) (by decide) ?_); clear hS; intro aa ww vv hS hp
     clear hR
     obtain ⟨rfl, hR⟩ := hp
     rw [decide_eq_true rfl] at hS
     replace hS := hS.sayB (t := 116) true rfl (by rfl)
     refine sA hS hR (Yld.move hS rfl) (by decide) ?_; clear hS; intro aa hS
     refine sAg hS hR rfl rfl (Yld.move hS rfl) (by decide) ?_; clear hS; intro aa hS
     refine sAg hS hR rfl rfl (Yld.move hS rfl) (by decide) ?_; clear hS; intro aa hS
     refine sBg hS rfl rfl (Bcall hS rfl Try.call19 (soRoom_ok (a := ad) had (hR.pk (r := sourceA _ b _ _ _) pkQ)) (by decide) ?_); clear hS; intro aa ww vv hS hp
     clear hR
     obtain ⟨rfl, hR⟩ := hp
     refine sAg hS hR rfl rfl (Yld.move hS rfl) (by decide) ?_; clear hS; intro aa hS
     refine sAg hS hR rfl rfl (Yld.eql hS rfl rfl) (by decide) ?_; clear hS; intro aa hS
     replace hS := hS.sayB (t := 122) true rfl (by simp [hO])
     refine sA hS hR (Yld.pickT hS rfl rfl) (by decide) ?_; clear hS; intro aa hS
     refine sA hS hR (Yld.assign hS rfl) (by decide) ?_; clear hS; intro aa hS
     refine wpList_nil ?_
     refine hK620 _ _ ?_
     refine wp_ret ?_
     repeat (first | with_reducible refine thenR ?_ | with_reducible refine blockR ?_ | with_reducible refine scopeR ?_)
     refine ret1 (fn := Try.f7) (e := .ret) (.inl rfl) Try.results7 hS hR ⟨_, (.tmp rfl), ?_⟩
     exact ⟨rfl, (hR.sub exQ)⟩
   refine wp_seq_k ?_; intro K621 hK621
   refine wp_region_lit ?_
   refine sA hS hR (Yld.move hS rfl) (by decide) ?_; clear hS; intro aa hS
   refine sA hS hR (Yld.eql hS rfl rfl) (by decide) ?_; clear hS; intro aa hS
   replace hS := hS.sayB (t := 86) false rfl (by simp)
   refine wpList_nil ?_
   refine hK621 _ _ ?_
   refine condF hS rfl ?_
   refine wp_skip ?_
   exact tail611 T rfl rfl _ _ (hS.le (Le.cons rfl (Le.cons rfl (Le.cons rfl (Le.cons rfl (Le.nil _)))))) (hR.sub exQ)
  ·
   refine sB (Bcall hS rfl Try.call19 (soRoom_ok (a := ad) had (hR.pk (r := sourceA _ b _ _ _) pkQ)) (by decide) ?_); clear hS; intro aa ww vv hS hp
   clear hR
   obtain ⟨rfl, hR⟩ := hp
   refine sA hS hR (Yld.assign hS rfl) (by decide) ?_; clear hS; intro aa hS
   refine wpList_nil ?_
   refine hK607 _ _ ?_
   refine wp_seq_k ?_; intro K622 hK622
   refine wp_region_lit ?_
   refine sA hS hR (Yld.move hS rfl) (by decide) ?_; clear hS; intro aa hS
   refine sA hS hR (Yld.move hS rfl) (by decide) ?_; clear hS; intro aa hS
   refine sA hS hR (Yld.move hS rfl) (by decide) ?_; clear hS; intro aa hS
   refine sB (Bcall hS rfl Try.call17 (soOpen_ok (a := ad) (x := (k : Int)) had (hR.pk (r := sourceA _ b _ _ _) pkQ)) (by decide) ?_); clear hS; intro aa ww vv hS hp
   clear hR
   obtain ⟨rfl, hR⟩ := hp
   rw [he1] at hS; rw [he2] at hR
   refine sA hS hR (Yld.assign hS rfl) (by decide) ?_; clear hS; intro aa hS
   refine wpList_nil ?_
   refine hK622 _ _ ?_
   refine wp_seq_k ?_; intro K623 hK623
   refine wp_seq_k ?_; intro K624 hK624
   refine wp_region_lit ?_
   refine sA hS hR (Yld.move hS rfl) (by decide) ?_; clear hS; intro aa hS
   refine sA hS hR (Yld.move hS rfl) (by decide) ?_; clear hS; intro aa hS
   refine sAg hS hR rfl rfl (Yld.move hS rfl) (by decide) ?_; clear hS; intro aa hS
   refine sAg hS hR rfl rfl (Yld.neq hS rfl rfl) (by decide) ?_; clear hS; intro aa hS
   replace hS := hS.sayB (t := 60) false rfl (by simp)
   refine sA hS hR (Yld.pickT hS rfl rfl) (by decide) ?_; clear hS; intro aa hS
   refine sA hS hR (Yld.move hS rfl) (by decide) ?_; clear hS; intro aa hS
   refine sAg hS hR rfl rfl (Yld.move hS rfl) (by decide) ?_; clear hS; intro aa hS
   refine sAg hS hR rfl rfl (Yld.not hS rfl) (by decide) ?_; clear hS; intro aa hS
   refine sAg hS hR rfl rfl (Yld.move hS rfl) (by decide) ?_; clear hS; intro aa hS
   refine sSkip hS rfl rfl rfl (by decide) ?_; clear hS; intro aa hS
   refine sSkip hS rfl rfl rfl (by decide) ?_; clear hS; intro aa hS
   refine sSkip hS rfl rfl rfl (by decide) ?_; clear hS; intro aa hS
   refine sSkip hS rfl rfl rfl (by decide) ?_; clear hS; intro aa hS
   refine sSkip hS rfl rfl rfl (by decide) ?_; clear hS; intro aa hS
   refine sAg hS hR rfl rfl (Yld.pickF hS rfl rfl) (by decide) ?_; clear hS; intro aa hS
   refine sA hS hR (Yld.pickF hS rfl rfl) (by decide) ?_; clear hS; intro aa hS
   refine sA hS hR (Yld.move hS rfl) (by decide) ?_; clear hS; intro aa hS
   refine sAg hS hR rfl rfl (Yld.move hS rfl) (by decide) ?_; clear hS; intro aa hS
   refine sAg hS hR rfl rfl (Yld.not hS rfl) (by decide) ?_; clear hS; intro aa hS
   refine sAg hS hR rfl rfl (Yld.move hS rfl) (by decide) ?_; clear hS; intro aa hS
   refine sSkip hS rfl rfl rfl (by decide) ?_; clear hS; intro aa hS
   refine sSkip hS rfl rfl rfl (by decide) ?_; clear hS; intro aa hS
   refine sAg hS hR rfl rfl (Yld.pickF hS rfl rfl) (by decide) ?_; clear hS; intro aa hS
   refine sAg hS hR rfl rfl (Yld.move hS rfl) (by decide) ?_; clear hS; intro aa hS
   refine sSkip hS rfl rfl rfl (by decide) ?_; clear hS; intro aa hS
   refine sSkip hS rfl rfl rfl (by decide) ?_; clear hS; intro aa hS
   refine sAg hS hR rfl rfl (Yld.pickF hS rfl rfl) (by decide) ?_; clear hS; intro aa hS
   refine sA hS hR (Yld.pickF hS rfl rfl) (by decide) ?_; clear hS; intro aa hS
   refine wpList_nil ?_
   refine hK624 _ _ ?_
   refine condF hS rfl ?_
   refine wp_skip ?_
   refine hK623 _ _ ?_
   refine wp_seq_k ?_; intro K625 hK625
   have tail625 : ∀ (T2 : So) (hO : T2.O = T.O) (hRr : T2.R = T.R) (aa : Act) (ww : World), Has 124 aa [(3, .int .u32 ad), (11, .pointer (some ⟨b, 0, none⟩)), (12, .pointer (some ⟨b2, 0, none⟩)), (16, .int .i64 ((lim : Int) - ((slO T.O ad).length : Int)))] → Sep (sourceA ss b S lim T2 :: sourceA ss b2 S lim T :: old W :: l) ww → K625 aa ww := by
    clear hS hR; intro T2 hO hRr aa ww hS hR
    refine hK625 _ _ ?_
    refine wp_seq_k ?_; intro K626 hK626
    refine wp_seq_k ?_; intro K627 hK627
    refine wp_region_lit ?_
    refine sA hS hR (Yld.move hS rfl) (by decide) ?_; clear hS; intro aa hS
    refine wpList_nil ?_
    refine hK627 _ _ ?_
    refine wp_block ?_
    refine loopI (X := Nat) [(3, _), (11, _), (12, _), (16, _)] (fun x => [(100, .int .u32 (x : Int))]) (fun x => []) _ (fun x => x ≤ 8) (fun x => 8 - x) 0 (Nat.zero_le _) (hS.le (Le.cons rfl (Le.nilapp (Le.cons rfl (Le.cons rfl (Le.cons rfl (Le.cons rfl (Le.nil _)))))))) hR ?_
    clear hS hR; rintro i aa ww hI hS hR; dsimp only [List.cons_append, List.nil_append] at hI hS hR
    refine wp_seq_k ?_; intro K629 hK629
    refine wp_region_lit ?_
    refine sA hS hR (Yld.lss hS rfl rfl) (by decide) ?_; clear hS; intro aa hS
    refine wpList_nil ?_
    refine hK629 _ _ ?_
    refine wp_seq_k ?_; intro K630 hK630
    refine hS.splitB (t := 101) rfl ?_ ?_ <;> clear hS
    ·
     intro hg hS
     refine condT hS rfl ?_
     refine wp_skip ?_
     refine hK630 _ _ ?_
     refine wp_seq_k ?_; intro K631 hK631
     refine wp_block ?_
     refine wp_seq_k ?_; intro K632 hK632
     refine wp_region_lit ?_
     refine sA hS hR (Yld.move hS rfl) (by decide) ?_; clear hS; intro aa hS
     refine sA hS hR (Yld.assign hS rfl) (by decide) ?_; clear hS; intro aa hS
     refine wpList_nil ?_
     refine hK632 _ _ ?_
     refine wp_seq_k ?_; intro K633 hK633
     refine wp_region_lit ?_
     refine sA hS hR (Yld.move hS rfl) (by decide) ?_; clear hS; intro aa hS
     refine sA hS hR (Yld.move hS rfl) (by decide) ?_; clear hS; intro aa hS
     refine sB (Bcall hS rfl Try.call22 (soSlots_ok (a := (i : Int)) (by omega) (hR.pk (r := sourceA _ b _ _ _) pkQ)) (by decide) ?_); clear hS; intro aa ww vv hS hp
     clear hR
     obtain ⟨ra, ca, rfl, hR⟩ := hp
     rw [hO] at hS hR
     refine sA hS hR (Yld.move hS rfl) (by decide) ?_; clear hS; intro aa hS
     refine sA hS hR (Yld.move hS rfl) (by decide) ?_; clear hS; intro aa hS
     refine sB (Bcall hS rfl Try.call22 (soSlots_ok (a := (i : Int)) (by omega) (hR.pk (r := sourceA _ b2 _ _ _) pkQ)) (by decide) ?_); clear hS; intro aa ww vv hS hp
     clear hR
     obtain ⟨rb, cb, rfl, hR⟩ := hp
     have hsli := hsl1 (i : Int)
     refine sB (Bcall hS rfl Try.call26 (eqI_ok (q1 := ra) (q2 := rb) (by rw [cst_len]; omega) (by rw [cst_len]; omega) ((hR.pk (r := sls rb _ _ _ _ _) pkQ).pk (r := sls ra _ _ _ _ _) pkQ)) (by decide) ?_); clear hS; intro aa ww vv hS hp
     clear hR
     obtain ⟨rfl, hR⟩ := hp
     rw [decide_eq_true rfl] at hS
     refine sA hS hR (Yld.not hS rfl) (by decide) ?_; clear hS; intro aa hS
     replace hS := hS.sayB (t := 110) false rfl (by rfl)
     refine wpList_nil ?_
     refine hK633 _ _ ?_
     refine condF hS rfl ?_
     refine wp_skip ?_
     refine hK631 _ _ ?_
     refine wp_region_lit ?_
     refine sA hS hR ((by first | exact Yld.to (Yld.add hS rfl rfl) (congrArg (Value.int .u32) (IntWalk.u32_in _ (by omega))) | exact Yld.add hS rfl rfl)) (by decide) ?_; clear hS; intro aa hS
     refine sA hS hR (Yld.move hS rfl) (by decide) ?_; clear hS; intro aa hS
     refine wpList_nil ?_
     
     refine ⟨i + 1, ?_, ?_, hS.le (Le.cons rfl (Le.nilapp (Le.cons rfl (Le.cons rfl (Le.cons rfl (Le.cons rfl (Le.nil _))))))), hR.sub (Ex.nilapp exQ)⟩
     ·
      omega
     ·
      omega
    ·
     intro hg hS
     refine condF hS rfl ?_
     refine wp_exit ?_
     refine hK626 _ _ ?_
     refine wp_seq_k ?_; intro K634 hK634
     refine wp_region_lit ?_
     refine sA hS hR (Yld.move hS rfl) (by decide) ?_; clear hS; intro aa hS
     refine sB (Bcall hS rfl Try.call23 (soAll_ok (hR.pk (r := sourceA _ b _ _ _) pkQ)) (by decide) ?_); clear hS; intro aa ww vv hS hp
     clear hR
     obtain ⟨ra, ca, rfl, hR⟩ := hp
     rw [hRr] at hS hR
     refine sA hS hR (Yld.move hS rfl) (by decide) ?_; clear hS; intro aa hS
     refine sB (Bcall hS rfl Try.call23 (soAll_ok (hR.pk (r := sourceA _ b2 _ _ _) pkQ)) (by decide) ?_); clear hS; intro aa ww vv hS hp
     clear hR
     obtain ⟨rb, cb, rfl, hR⟩ := hp
     have hall := hSF.allLen
     refine sB (Bcall hS rfl Try.call27 (eqU_ok (q1 := ra) (q2 := rb) (by omega) (by omega) ((hR.pk (r := sls rb _ _ _ _ _) pkQ).pk (r := sls ra _ _ _ _ _) pkQ)) (by decide) ?_); clear hS; intro aa ww vv hS hp
     clear hR
     obtain ⟨rfl, hR⟩ := hp
     rw [decide_eq_true rfl] at hS
     replace hS := hS.sayB (t := 116) true rfl (by rfl)
     refine sA hS hR (Yld.move hS rfl) (by decide) ?_; clear hS; intro aa hS
     refine sAg hS hR rfl rfl (Yld.move hS rfl) (by decide) ?_; clear hS; intro aa hS
     refine sAg hS hR rfl rfl (Yld.move hS rfl) (by decide) ?_; clear hS; intro aa hS
     refine sBg hS rfl rfl (Bcall hS rfl Try.call19 (soRoom_ok (a := ad) had (hR.pk (r := sourceA _ b _ _ _) pkQ)) (by decide) ?_); clear hS; intro aa ww vv hS hp
     clear hR
     obtain ⟨rfl, hR⟩ := hp
     refine sAg hS hR rfl rfl (Yld.move hS rfl) (by decide) ?_; clear hS; intro aa hS
     refine sAg hS hR rfl rfl (Yld.eql hS rfl rfl) (by decide) ?_; clear hS; intro aa hS
     replace hS := hS.sayB (t := 122) true rfl (by simp [hO])
     refine sA hS hR (Yld.pickT hS rfl rfl) (by decide) ?_; clear hS; intro aa hS
     refine sA hS hR (Yld.assign hS rfl) (by decide) ?_; clear hS; intro aa hS
     refine wpList_nil ?_
     refine hK634 _ _ ?_
     refine wp_ret ?_
     repeat (first | with_reducible refine thenR ?_ | with_reducible refine blockR ?_ | with_reducible refine scopeR ?_)
     refine ret1 (fn := Try.f7) (e := .ret) (.inl rfl) Try.results7 hS hR ⟨_, (.tmp rfl), ?_⟩
     exact ⟨rfl, (hR.sub exQ)⟩
   refine wp_seq_k ?_; intro K635 hK635
   refine wp_region_lit ?_
   refine sA hS hR (Yld.move hS rfl) (by decide) ?_; clear hS; intro aa hS
   refine sA hS hR (Yld.eql hS rfl rfl) (by decide) ?_; clear hS; intro aa hS
   replace hS := hS.sayB (t := 86) false rfl (by simp)
   refine wpList_nil ?_
   refine hK635 _ _ ?_
   refine condF hS rfl ?_
   refine wp_skip ?_
   exact tail625 T rfl rfl _ _ (hS.le (Le.cons rfl (Le.cons rfl (Le.cons rfl (Le.cons rfl (Le.nil _)))))) (hR.sub exQ)
end Go.Proofs.Ythjfclljjcpikaa.Sx
