/-
  
-/
import Derived.Test.YtcokognhodjfgaaLxD
namespace Go.Proofs.Ytcokognhodjfgaa.Sx
open Go
set_option linter.unusedVariables false
set_option linter.unusedSimpArgs false

theorem info23 : Try.prog.info? 23 = some Try.t23 := by kernel_rfl
theorem bls55_2_0_1 (x0 : Option Addr) (x1 : Option Addr) (w : World) : (Instr.buildSlice 55 2 [(0, .pointer x0), (1, .pointer x1)].toArray).run Try.prog w = .ok (.slice (some ⟨w.heap.size, 0, none⟩) 2 2) (w.alloc (.cells ([.pointer x0, .pointer x1] : List Value).toArray 23)) := by kernel_rfl

def ePt (p : Option Addr) : List Value := [.pointer p]
set_option maxHeartbeats 8000000 in
set_option maxRecDepth 20000 in
theorem LinksJoined_ok {W : World} {q : Option Addr} {n c : Nat} {xs : List (List Int)} (A1 : ArgS W [.u8] q n c xs) {l : List HP} {w : World} (hR : Sep (old W :: l) w) : CallR Try.prog 7 [.slice q n c] w (fun v w' => v = .bool true ∧ Sep (old W :: l) w') := by
  refine enter Try.func7 rfl Try.ntmps7 (Nat.le_of_ble_eq_true rfl) ?_; intro aa hS
  have hcap := A1.cap
  refine wp_seq_k ?_; intro K405 hK405
  refine wp_region_lit ?_
  refine sA hS hR (Yld.assign hS rfl) (by decide) ?_; clear hS; intro aa hS
  refine wpList_nil ?_
  refine hK405 _ _ ?_
  refine wp_seq_k ?_; intro K406 hK406
  refine wp_region_lit ?_
  refine sA hS hR (Yld.move hS rfl) (by decide) ?_; clear hS; intro aa hS
  refine sB (Bcall hS rfl Try.call9 (put14_ok (nn := 4) A1 hR (by decide) (by decide)) (by decide) ?_); clear hS; intro aa ww vv hS hp
  clear hR
  obtain ⟨b, rfl, hR⟩ := hp
  refine sA hS hR (Yld.move hS rfl) (by decide) ?_; clear hS; intro aa hS
  refine sA hS hR (Yld.extract hS rfl rfl) (by decide) ?_; clear hS; intro aa hS
  refine sA hS hR (Yld.extract hS rfl rfl) (by decide) ?_; clear hS; intro aa hS
  refine sA hS hR (Yld.extract hS rfl rfl) (by decide) ?_; clear hS; intro aa hS
  refine sA hS hR (Yld.assign hS rfl) (by decide) ?_; clear hS; intro aa hS
  refine sA hS hR (Yld.assign hS rfl) (by decide) ?_; clear hS; intro aa hS
  refine sA hS hR (Yld.assign hS rfl) (by decide) ?_; clear hS; intro aa hS
  refine wpList_nil ?_
  refine hK406 _ _ ?_
  refine wp_seq_k ?_; intro K407 hK407
  refine wp_region_lit ?_
  refine sA hS hR (Yld.move hS rfl) (by decide) ?_; clear hS; intro aa hS
  refine sB (Bcall hS rfl Try.call9 (put14_ok (nn := 4) A1 (hR.pk (r := old W) (by repeat (first | with_reducible exact Pk.here | with_reducible apply Pk.there))) (by decide) (by decide)) (by decide) ?_); clear hS; intro aa ww vv hS hp
  clear hR
  obtain ⟨b2, rfl, hR⟩ := hp
  obtain ⟨L, hL⟩ : ∃ L, putL xs 4 (min n 20) = L := ⟨_, rfl⟩
  obtain ⟨S, hS0⟩ : ∃ S, S9 n = S := ⟨_, rfl⟩
  rw [hL, hS0] at hR
  rw [hS0] at hS
  have hWL := (hR.pk (r := linksA _ _ _ b _ _ _) (by repeat (first | with_reducible exact Pk.here | with_reducible apply Pk.there))).linksWL
  have hS1 := hWL.s1
  have hS20 : S ≤ 20 := by rw [← hS0]; unfold S9; omega
  have hl0 := hWL.len (i := 0) (by decide)
  have hl1 := hWL.len (i := 1) (by decide)
  have hl2 := hWL.len (i := 2) (by decide)
  have hl3 := hWL.len (i := 3) (by decide)
  have k0 := cst_len (l := L 0)
  have k1 := cst_len (l := L 1)
  have k2 := cst_len (l := L 2)
  have k3 := cst_len (l := L 3)
  refine sA hS hR (Yld.move hS rfl) (by decide) ?_; clear hS; intro aa hS
  refine sA hS hR (Yld.extract hS rfl rfl) (by decide) ?_; clear hS; intro aa hS
  refine sA hS hR (Yld.extract hS rfl rfl) (by decide) ?_; clear hS; intro aa hS
  refine sA hS hR (Yld.extract hS rfl rfl) (by decide) ?_; clear hS; intro aa hS
  refine sA hS hR (Yld.assign hS rfl) (by decide) ?_; clear hS; intro aa hS
  refine sA hS hR (Yld.assign hS rfl) (by decide) ?_; clear hS; intro aa hS
  refine sA hS hR (Yld.assign hS rfl) (by decide) ?_; clear hS; intro aa hS
  refine wpList_nil ?_
  refine hK407 _ _ ?_
  refine wp_seq_k ?_; intro K408 hK408
  refine wp_seq_k ?_; intro K409 hK409
  refine wp_region_lit ?_
  refine sA hS hR (Yld.move hS rfl) (by decide) ?_; clear hS; intro aa hS
  refine sA hS hR (Yld.not hS rfl) (by decide) ?_; clear hS; intro aa hS
  replace hS := hS.sayB (t := 26) false rfl (by rfl)
  refine sA hS hR (Yld.move hS rfl) (by decide) ?_; clear hS; intro aa hS
  refine sAg hS hR rfl rfl (Yld.move hS rfl) (by decide) ?_; clear hS; intro aa hS
  refine sAg hS hR rfl rfl (Yld.not hS rfl) (by decide) ?_; clear hS; intro aa hS
  replace hS := hS.sayB (t := 29) false rfl (by rfl)
  refine sA hS hR (Yld.pickF hS rfl rfl) (by decide) ?_; clear hS; intro aa hS
  refine wpList_nil ?_
  refine hK409 _ _ ?_
  refine condF hS rfl ?_
  refine wp_skip ?_
  refine hK408 _ _ ?_
  refine wp_seq_k ?_; intro K410 hK410
  refine wp_region_lit ?_
  refine sA hS hR (Yld.move hS rfl) (by decide) ?_; clear hS; intro aa hS
  refine sB (Bcall hS rfl Try.call10 (LAll_ok (n := 4) (q := ((0 : Nat) : Int)) (hR.pk (r := linksA _ _ _ b _ _ _) (by repeat (first | with_reducible exact Pk.here | with_reducible apply Pk.there)))) (by decide) ?_); clear hS; intro aa ww vv hS hp
  clear hR
  obtain ⟨r0, c0, rfl, hR⟩ := hp
  rw [allS_nat (by decide)] at hS hR
  refine sA hS hR (Yld.move hS rfl) (by decide) ?_; clear hS; intro aa hS
  refine sB (Bcall hS rfl Try.call10 (LAll_ok (n := 4) (q := ((1 : Nat) : Int)) (hR.pk (r := linksA _ _ _ b _ _ _) (by repeat (first | with_reducible exact Pk.here | with_reducible apply Pk.there)))) (by decide) ?_); clear hS; intro aa ww vv hS hp
  clear hR
  obtain ⟨r1, c1, rfl, hR⟩ := hp
  rw [allS_nat (by decide)] at hS hR
  refine sB (BappendR (sz := 1) hS hR rfl rfl Try.underlying27 info3 rfl rfl (by rfl) (by repeat (first | with_reducible exact Pk.here | with_reducible apply Pk.there)) (XC.all (by repeat (first | with_reducible exact Pk.here | with_reducible apply Pk.there))) (by intro _; rfl) (by show (_ + _) * 8 ≤ _; first | omega | (simp only [List.length_take, List.length_append, List.length_drop, List.length_cons, List.length_nil, List.length_map]; omega)) (by first | omega | (simp only [List.length_take, List.length_append, List.length_drop, List.length_cons, List.length_nil, List.length_map]; omega)) (by first | rfl | (simp; done) | (simp; omega)) (by decide) ?_); clear hS hR; intro aa ww r35 c35 hS hR
  refine sA hS hR (Yld.move hS rfl) (by decide) ?_; clear hS; intro aa hS
  refine sB (Bcall hS rfl Try.call10 (LAll_ok (n := 4) (q := ((2 : Nat) : Int)) (hR.pk (r := linksA _ _ _ b _ _ _) (by repeat (first | with_reducible exact Pk.here | with_reducible apply Pk.there)))) (by decide) ?_); clear hS; intro aa ww vv hS hp
  clear hR
  obtain ⟨r2, c2, rfl, hR⟩ := hp
  rw [allS_nat (by decide)] at hS hR
  refine sB (BappendR (sz := 1) hS hR rfl rfl Try.underlying27 info3 rfl rfl (by rfl) (by repeat (first | with_reducible exact Pk.here | with_reducible apply Pk.there)) (XC.all (by repeat (first | with_reducible exact Pk.here | with_reducible apply Pk.there))) (by intro _; rfl) (by show (_ + _) * 8 ≤ _; first | omega | (simp only [List.length_take, List.length_append, List.length_drop, List.length_cons, List.length_nil, List.length_map]; omega)) (by first | omega | (simp only [List.length_take, List.length_append, List.length_drop, List.length_cons, List.length_nil, List.length_map]; omega)) (by first | rfl | (simp; done) | (simp; omega)) (by decide) ?_); clear hS hR; intro aa ww r38 c38 hS hR
  obtain ⟨Wt, hWt⟩ : ∃ y, (cst (L 0) ++ cst (L 1) ++ cst (L 2)) = y := ⟨_, rfl⟩
  have hWl : Wt.length = (L 0).length + (L 1).length + (L 2).length := by rw [← hWt, List.length_append, List.length_append, k0, k1, k2]
  have hWJ : cst (joined L 0) = Wt := by rw [← hWt]; simp [joined, cst]
  rw [hWt] at hS hR
  obtain ⟨rW, hrW⟩ : ∃ y, r38 = y := ⟨_, rfl⟩
  obtain ⟨cW, hcW⟩ : ∃ y, c38 = y := ⟨_, rfl⟩
  rw [hrW, hcW] at hS hR
  refine sA hS hR (Yld.assign hS rfl) (by decide) ?_; clear hS; intro aa hS
  refine wpList_nil ?_
  refine hK410 _ _ ?_
  refine wp_seq_k ?_; intro K411 hK411
  refine wp_region_lit ?_
  refine sA hS hR (Yld.move hS rfl) (by decide) ?_; clear hS; intro aa hS
  refine sB (Bcall hS rfl Try.call10 (LAll_ok (n := 4) (q := ((3 : Nat) : Int)) (hR.pk (r := linksA _ _ _ b _ _ _) (by repeat (first | with_reducible exact Pk.here | with_reducible apply Pk.there)))) (by decide) ?_); clear hS; intro aa ww vv hS hp
  clear hR
  obtain ⟨r3, c3, rfl, hR⟩ := hp
  rw [allS_nat (by decide)] at hS hR
  refine sA hS hR (Yld.assign hS rfl) (by decide) ?_; clear hS; intro aa hS
  refine wpList_nil ?_
  refine hK411 _ _ ?_
  refine wp_seq_k ?_; intro K412 hK412
  refine wp_seq_k ?_; intro K413 hK413
  refine wp_region_lit ?_
  refine sA hS hR (Yld.move hS rfl) (by decide) ?_; clear hS; intro aa hS
  refine sB (Bcall hS rfl Try.call29 (LJoin_ok (n := 4) (tq := 0) (fq := 1) (hR.pk (r := linksA _ _ _ b _ _ _) (by repeat (first | with_reducible exact Pk.here | with_reducible apply Pk.there)))) (by decide) ?_); clear hS; intro aa ww vv hS hp
  clear hR
  obtain ⟨rfl, hR⟩ := hp
  rw [show joinE 4 0 1 = 0 from by decide] at hS
  refine sA hS hR (Yld.move hS rfl) (by decide) ?_; clear hS; intro aa hS
  refine sB (Bcall hS rfl Try.call29 (LJoin_ok (n := 4) (tq := 0) (fq := 2) (hR.pk (r := linksA _ _ _ b _ _ _) (by repeat (first | with_reducible exact Pk.here | with_reducible apply Pk.there)))) (by decide) ?_); clear hS; intro aa ww vv hS hp
  clear hR
  obtain ⟨rfl, hR⟩ := hp
  rw [show joinE 4 0 2 = 0 from by decide] at hS
  rw [joined_x] at hR
  refine sA hS hR ((by first | exact Yld.add64 hS rfl rfl (by omega) | exact Yld.add hS rfl rfl)) (by decide) ?_; clear hS; intro aa hS
  refine sA hS hR (Yld.neq hS rfl rfl) (by decide) ?_; clear hS; intro aa hS
  replace hS := hS.sayB (t := 46) false rfl (by decide)
  refine sA hS hR (Yld.move hS rfl) (by decide) ?_; clear hS; intro aa hS
  refine sAg hS hR rfl rfl (Yld.move hS rfl) (by decide) ?_; clear hS; intro aa hS
  refine sBg hS rfl rfl (Bcall hS rfl Try.call29 (LJoin_ok (n := 4) (tq := 1) (fq := 2) (hR.pk (r := linksA _ _ _ b2 _ _ _) (by repeat (first | with_reducible exact Pk.here | with_reducible apply Pk.there)))) (by decide) ?_); clear hS; intro aa ww vv hS hp
  clear hR
  obtain ⟨rfl, hR⟩ := hp
  rw [show joinE 4 1 2 = 0 from by decide] at hS
  refine sAg hS hR rfl rfl (Yld.move hS rfl) (by decide) ?_; clear hS; intro aa hS
  refine sBg hS rfl rfl (Bcall hS rfl Try.call29 (LJoin_ok (n := 4) (tq := 0) (fq := 1) (hR.pk (r := linksA _ _ _ b2 _ _ _) (by repeat (first | with_reducible exact Pk.here | with_reducible apply Pk.there)))) (by decide) ?_); clear hS; intro aa ww vv hS hp
  clear hR
  obtain ⟨rfl, hR⟩ := hp
  rw [show joinE 4 0 1 = 0 from by decide] at hS
  rw [joined_y] at hR
  refine sAg hS hR rfl rfl ((by first | exact Yld.add64 hS rfl rfl (by omega) | exact Yld.add hS rfl rfl)) (by decide) ?_; clear hS; intro aa hS
  refine sAg hS hR rfl rfl (Yld.neq hS rfl rfl) (by decide) ?_; clear hS; intro aa hS
  replace hS := hS.sayB (t := 53) false rfl (by decide)
  refine sA hS hR (Yld.pickF hS rfl rfl) (by decide) ?_; clear hS; intro aa hS
  refine wpList_nil ?_
  refine hK413 _ _ ?_
  refine condF hS rfl ?_
  refine wp_skip ?_
  refine hK412 _ _ ?_
  refine wp_seq_k ?_; intro K414 hK414
  refine wp_seq_k ?_; intro K415 hK415
  refine wp_region_lit ?_
  refine sA hS hR (Yld.move hS rfl) (by decide) ?_; clear hS; intro aa hS
  refine sA hS hR (Yld.move hS rfl) (by decide) ?_; clear hS; intro aa hS
  refine sB (BbuildSlice hS hR rfl (bls55_2_0_1 _ _) (by decide) ?_); clear hS hR; intro aa ww bb57 hS hR
  replace hR := hR.pk (r := blk bb57 _ _) (by repeat (first | with_reducible exact Pk.here | with_reducible apply Pk.there))
  replace hR := Sep.toRecs (m := 2) (sz := 1) (enc := ePt) ([some ⟨b, 0, none⟩, some ⟨b2, 0, none⟩] : List (Option Addr)) hR rfl (by intro _; rfl) rfl
  refine sA hS hR (Yld.len hS rfl Try.underlying55) (by decide) ?_; clear hS; intro aa hS
  refine sA hS hR (Yld.move hS rfl) (by decide) ?_; clear hS; intro aa hS
  refine wpList_nil ?_
  refine hK415 _ _ ?_
  refine wp_block ?_
  replace hR := hR.pk (r := linksA 54 65 3 b2 S 4 (joined L)) (by repeat (first | with_reducible exact Pk.here | with_reducible apply Pk.there))
  replace hR := hR.pk (r := linksA 54 65 3 b S 4 (joined L)) (by repeat (first | with_reducible exact Pk.here | with_reducible apply Pk.there))
  refine loopI (X := Nat × (Nat → List Nat) × (Nat → List Nat)) [(4, _), (9, _), (10, _), (57, _), (58, _)] (fun x => [(59, .int .i64 (x.1 : Int))]) (fun x => [linksA 54 65 3 b S 4 x.2.1, linksA 54 65 3 b2 S 4 x.2.2]) _ (fun x => x.1 ≤ 2 ∧ (x.1 ≤ 0 → x.2.1 = joined L) ∧ (x.1 ≤ 1 → x.2.2 = joined L)) (fun x => 2 - x.1) (0, joined L, joined L) ⟨by omega, fun _ => rfl, fun _ => rfl⟩ (hS.le (Le.cons rfl (Le.nilapp (Le.cons rfl (Le.cons rfl (Le.cons rfl (Le.cons rfl (Le.cons rfl (Le.nil _))))))))) hR ?_
  clear hS hR; rintro ⟨i, F, G⟩ aa ww hI hS hR; dsimp only [List.cons_append, List.nil_append] at hI hS hR
  refine wp_seq_k ?_; intro K417 hK417
  refine wp_region_lit ?_
  refine sA hS hR (Yld.lss hS rfl rfl) (by decide) ?_; clear hS; intro aa hS
  refine wpList_nil ?_
  refine hK417 _ _ ?_
  refine wp_seq_k ?_; intro K418 hK418
  refine hS.splitB (t := 60) rfl ?_ ?_ <;> clear hS
  · intro hg hS
    have hi2 : i < 2 := by have h9 : (i : Int) < 2 := hg; omega
    refine condT hS rfl ?_
    refine wp_skip ?_
    refine hK418 _ _ ?_
    refine wp_seq_k ?_; intro K419 hK419
    refine wp_block ?_
    refine wp_seq_k ?_; intro K420 hK420
    refine wp_region_lit ?_
    by_cases hn : i = 0
    ·
      refine sA hS hR ((by first | exact Yld.indexH (sz := 1) (i) hS rfl rfl Try.underlying55 info23 (by assumption) rfl (by first | rfl | omega) (by omega) | exact Yld.indexL (sz := 1) (i) hS rfl rfl Try.underlying55 info23 (by repeat (first | with_reducible exact Pk.here | with_reducible apply Pk.there)) rfl (by first | rfl | omega) (by omega) | exact Yld.indexB (sz := 1) (i) hS rfl rfl Try.underlying55 info23 rfl (by first | rfl | omega) (by omega))) (by decide) ?_; clear hS; intro aa hS
      first
        | (have hF := hI.2.1 (by omega); subst hF)
        | (have hi1 : i = 1 := by omega
           have hG := hI.2.2 (by omega); subst hG)
      try have hi1 : i = 1 := by omega
      refine sA hS hR (Yld.load1 hS rfl Try.underlying23 rfl (Rd.rec0 (k := i) (xs := ([some ⟨b, 0, none⟩, some ⟨b2, 0, none⟩] : List (Option Addr))) (v := .pointer (some ⟨b, 0, none⟩)) (by repeat (first | with_reducible exact Pk.here | with_reducible apply Pk.there)) (by intro _; rfl) (by show i < 2; omega) (by simp only [hn]; rfl))) (by decide) ?_; clear hS; intro aa hS
      refine sA hS hR (Yld.assign hS rfl) (by decide) ?_; clear hS; intro aa hS
      refine wpList_nil ?_
      refine hK420 _ _ ?_
      refine wp_seq_k ?_; intro K421 hK421
      refine wp_seq_k ?_; intro K422 hK422
      refine wp_region_lit ?_
      refine sA hS hR (Yld.move hS rfl) (by decide) ?_; clear hS; intro aa hS
      refine sA hS hR (Yld.move hS rfl) (by decide) ?_; clear hS; intro aa hS
      refine sB (Bcall hS rfl Try.call30 (whole_ok (n := 4) (L := joined L) (hR.pk (r := linksA _ _ _ b _ _ _) (by repeat (first | with_reducible exact Pk.here | with_reducible apply Pk.there)))) (by decide) ?_); clear hS; intro aa ww vv hS hp
      clear hR
      obtain ⟨rfl, hR⟩ := hp
      refine sA hS hR (Yld.not hS rfl) (by decide) ?_; clear hS; intro aa hS
      replace hS := hS.sayB (t := 66) false rfl (by rfl)
      refine sA hS hR (Yld.move hS rfl) (by decide) ?_; clear hS; intro aa hS
      refine sAg hS hR rfl rfl (Yld.move hS rfl) (by decide) ?_; clear hS; intro aa hS
      refine sBg hS rfl rfl (Bcall hS rfl Try.call10 (LAll_ok (n := 4) (q := ((0 : Nat) : Int)) (hR.pk (r := linksA _ _ _ b _ _ _) (by repeat (first | with_reducible exact Pk.here | with_reducible apply Pk.there)))) (by decide) ?_); clear hS; intro aa ww vv hS hp
      clear hR
      obtain ⟨ra, ca, rfl, hR⟩ := hp
      rw [allS_nat (by decide)] at hS hR
      rw [hWJ] at hS hR
      have hs1 : IntsAt _ ra Wt := hR.intsSls (r := ra) (by repeat (first | with_reducible exact Pk.here | with_reducible apply Pk.there))
      have hs2 : IntsAt _ rW Wt := hR.intsSls (r := rW) (by repeat (first | with_reducible exact Pk.here | with_reducible apply Pk.there))
      refine sAg hS hR rfl rfl (Yld.move hS rfl) (by decide) ?_; clear hS; intro aa hS
      refine sBg hS rfl rfl (Bcall hS rfl Try.call18 (SameInts_ok hR hs1 hs2 (by omega) (by omega)) (by decide) ?_); clear hS; intro aa ww vv hS hp
      clear hR
      obtain ⟨rfl, hR⟩ := hp
      replace hS := hS.sayB (t := 71) true rfl (by simp)
      refine sAg hS hR rfl rfl (Yld.not hS rfl) (by decide) ?_; clear hS; intro aa hS
      refine sA hS hR (Yld.pickF hS rfl rfl) (by decide) ?_; clear hS; intro aa hS
      refine sA hS hR (Yld.move hS rfl) (by decide) ?_; clear hS; intro aa hS
      refine sAg hS hR rfl rfl (Yld.move hS rfl) (by decide) ?_; clear hS; intro aa hS
      refine sBg hS rfl rfl (Bcall hS rfl Try.call26 (LLen_ok (n := 4) (x := ((1 : Nat) : Int)) (hR.pk (r := linksA _ _ _ b _ _ _) (by repeat (first | with_reducible exact Pk.here | with_reducible apply Pk.there)))) (by decide) ?_); clear hS; intro aa ww vv hS hp
      clear hR
      obtain ⟨rfl, hR⟩ := hp
      rw [allS_nat (by decide)] at hS
      refine sAg hS hR rfl rfl (Yld.move hS rfl) (by decide) ?_; clear hS; intro aa hS
      refine sBg hS rfl rfl (Bcall hS rfl Try.call26 (LLen_ok (n := 4) (x := ((2 : Nat) : Int)) (hR.pk (r := linksA _ _ _ b _ _ _) (by repeat (first | with_reducible exact Pk.here | with_reducible apply Pk.there)))) (by decide) ?_); clear hS; intro aa ww vv hS hp
      clear hR
      obtain ⟨rfl, hR⟩ := hp
      rw [allS_nat (by decide)] at hS
      refine sAg hS hR rfl rfl ((by first | exact Yld.add64 hS rfl rfl (by omega) | exact Yld.add hS rfl rfl)) (by decide) ?_; clear hS; intro aa hS
      refine sAg hS hR rfl rfl (Yld.neq hS rfl rfl) (by decide) ?_; clear hS; intro aa hS
      replace hS := hS.sayB (t := 80) false rfl (by rfl)
      refine sA hS hR (Yld.pickF hS rfl rfl) (by decide) ?_; clear hS; intro aa hS
      refine sA hS hR (Yld.move hS rfl) (by decide) ?_; clear hS; intro aa hS
      refine sAg hS hR rfl rfl (Yld.move hS rfl) (by decide) ?_; clear hS; intro aa hS
      refine sBg hS rfl rfl (Bcall hS rfl Try.call10 (LAll_ok (n := 4) (q := ((3 : Nat) : Int)) (hR.pk (r := linksA _ _ _ b _ _ _) (by repeat (first | with_reducible exact Pk.here | with_reducible apply Pk.there)))) (by decide) ?_); clear hS; intro aa ww vv hS hp
      clear hR
      obtain ⟨ra, ca, rfl, hR⟩ := hp
      rw [allS_nat (by decide)] at hS hR
      rw [show joined L 3 = L 3 from rfl] at hS hR
      have hs3 : IntsAt _ ra (cst (L 3)) := hR.intsSls (r := ra) (by repeat (first | with_reducible exact Pk.here | with_reducible apply Pk.there))
      have hs4 : IntsAt _ r3 (cst (L 3)) := hR.intsSls (r := r3) (by repeat (first | with_reducible exact Pk.here | with_reducible apply Pk.there))
      refine sAg hS hR rfl rfl (Yld.move hS rfl) (by decide) ?_; clear hS; intro aa hS
      refine sBg hS rfl rfl (Bcall hS rfl Try.call18 (SameInts_ok hR hs3 hs4 (by omega) (by omega)) (by decide) ?_); clear hS; intro aa ww vv hS hp
      clear hR
      obtain ⟨rfl, hR⟩ := hp
      replace hS := hS.sayB (t := 86) true rfl (by simp)
      refine sAg hS hR rfl rfl (Yld.not hS rfl) (by decide) ?_; clear hS; intro aa hS
      refine sA hS hR (Yld.pickF hS rfl rfl) (by decide) ?_; clear hS; intro aa hS
      refine wpList_nil ?_
      refine hK422 _ _ ?_
      refine condF hS rfl ?_
      refine wp_skip ?_
      refine hK421 _ _ ?_
      refine wp_seq_k ?_; intro K423 hK423
      refine wp_region_lit ?_
      refine sA hS hR (Yld.move hS rfl) (by decide) ?_; clear hS; intro aa hS
      refine sA hS hR (Yld.len hS rfl Try.underlying27) (by decide) ?_; clear hS; intro aa hS
      refine sA hS hR (Yld.gtr hS rfl rfl) (by decide) ?_; clear hS; intro aa hS
      refine sA hS hR (Yld.move hS rfl) (by decide) ?_; clear hS; intro aa hS
      refine hS.splitB (t := 92) rfl ?_ ?_ <;> clear hS
      · intro hg hS
        obtain ⟨p, tl, hJ0⟩ : ∃ p tl, joined L 0 = p :: tl := by
          cases e : joined L 0 with
          | nil => rw [e] at hWJ; rw [← hWJ] at hg; simp [cst] at hg
          | cons p tl => exact ⟨p, tl, rfl⟩
        have hW0 : Wt = (p : Int) :: cst tl := by rw [← hWJ, hJ0]; rfl
        have hWJL := (hR.pk (r := linksA _ _ _ b _ _ _) (by repeat (first | with_reducible exact Pk.here | with_reducible apply Pk.there))).linksWL
        have hpm : p ∈ joined L 0 := by rw [hJ0]; exact List.mem_cons_self
        have hpS := hWJL.lt 0 (by decide) p hpm
        have hof := hWJL.ofL (i := 0) (by decide) hpm
        have hno := hWJL.ofOut (i := 0) (by decide) hpm
        have htl : (joined L 0).erase p = tl := by rw [hJ0, List.erase_cons_head]
        have hWtl : Wt.length = tl.length + 1 := by rw [hW0]; simp [cst]
        refine sAg hS hR rfl rfl (Yld.move hS rfl) (by decide) ?_; clear hS; intro aa hS
        refine sAg hS hR rfl rfl (Yld.move hS rfl) (by decide) ?_; clear hS; intro aa hS
        refine sAg hS hR rfl rfl ((by first | exact Yld.indexH (sz := 1) (0) hS rfl rfl Try.underlying27 info3 (by assumption) rfl (by first | rfl | omega) (by omega) | exact Yld.indexL (sz := 1) (0) hS rfl rfl Try.underlying27 info3 (by repeat (first | with_reducible exact Pk.here | with_reducible apply Pk.there)) rfl (by first | rfl | omega) (by omega) | exact Yld.indexB (sz := 1) (0) hS rfl rfl Try.underlying27 info3 rfl (by first | rfl | omega) (by omega))) (by decide) ?_; clear hS; intro aa hS
        refine sAg hS hR rfl rfl (Yld.load1 hS rfl Try.underlying3 rfl (Rd.rec0 (k := 0) (xs := Wt) (v := .int .i64 ((p : Nat) : Int)) (by repeat (first | with_reducible exact Pk.here | with_reducible apply Pk.there)) (by intro _; rfl) (by omega) (by simp only [hW0]; rfl))) (by decide) ?_; clear hS; intro aa hS
        refine sBg hS rfl rfl (Bcall hS rfl Try.call16 (LOut_ok (n := 4) (x := (p : Int)) (hR.pk (r := linksA _ _ _ b _ _ _) (by repeat (first | with_reducible exact Pk.here | with_reducible apply Pk.there)))) (by decide) ?_); clear hS; intro aa ww vv hS hp
        clear hR
        obtain ⟨rfl, hR⟩ := hp
        rw [outE_has hpS hof] at hS
        rw [outS_has hpS hof] at hR
        refine sAg hS hR rfl rfl (Yld.neq hS rfl rfl) (by decide) ?_; clear hS; intro aa hS
        replace hS := hS.sayB (t := 98) false rfl (by decide)
        refine sAg hS hR rfl rfl (Yld.move hS rfl) (by decide) ?_; clear hS; intro aa hS
        refine sAg hS hR rfl rfl (Yld.move hS rfl) (by decide) ?_; clear hS; intro aa hS
        refine sAg hS hR rfl rfl (Yld.move hS rfl) (by decide) ?_; clear hS; intro aa hS
        refine sAg hS hR rfl rfl ((by first | exact Yld.indexH (sz := 1) (0) hS rfl rfl Try.underlying27 info3 (by assumption) rfl (by first | rfl | omega) (by omega) | exact Yld.indexL (sz := 1) (0) hS rfl rfl Try.underlying27 info3 (by repeat (first | with_reducible exact Pk.here | with_reducible apply Pk.there)) rfl (by first | rfl | omega) (by omega) | exact Yld.indexB (sz := 1) (0) hS rfl rfl Try.underlying27 info3 rfl (by first | rfl | omega) (by omega))) (by decide) ?_; clear hS; intro aa hS
        refine sAg hS hR rfl rfl (Yld.load1 hS rfl Try.underlying3 rfl (Rd.rec0 (k := 0) (xs := Wt) (v := .int .i64 ((p : Nat) : Int)) (by repeat (first | with_reducible exact Pk.here | with_reducible apply Pk.there)) (by intro _; rfl) (by omega) (by simp only [hW0]; rfl))) (by decide) ?_; clear hS; intro aa hS
        refine sBg hS rfl rfl (Bcall hS rfl Try.call17 (LBack_ok (n := 4) (x := ((1 : Nat) : Int)) (y := (p : Int)) (hR.pk (r := linksA _ _ _ b _ _ _) (by repeat (first | with_reducible exact Pk.here | with_reducible apply Pk.there)))) (by decide) ?_); clear hS; intro aa ww vv hS hp
        clear hR
        obtain ⟨rfl, hR⟩ := hp
        rw [addE_new (by decide) hpS hno] at hS
        rw [addS_new (by decide) hpS hno] at hR
        obtain ⟨L2, hL2⟩ : ∃ y, upd (upd (joined L) 0 ((joined L 0).erase p)) 1 (addL 1 (upd (joined L) 0 ((joined L 0).erase p) 1) p) = y := ⟨_, rfl⟩
        rw [hL2] at hR
        have hL21 : L2 1 = [p] := by rw [← hL2]; rfl
        have hL20 : L2 0 = tl := by rw [← hL2, htl]; rfl
        refine sAg hS hR rfl rfl (Yld.neq hS rfl rfl) (by decide) ?_; clear hS; intro aa hS
        replace hS := hS.sayB (t := 105) false rfl (by decide)
        refine sAg hS hR rfl rfl (Yld.pickF hS rfl rfl) (by decide) ?_; clear hS; intro aa hS
        refine sAg hS hR rfl rfl (Yld.move hS rfl) (by decide) ?_; clear hS; intro aa hS
        refine sAg hS hR rfl rfl (Yld.move hS rfl) (by decide) ?_; clear hS; intro aa hS
        refine sBg hS rfl rfl (Bcall hS rfl Try.call26 (LLen_ok (n := 4) (x := ((1 : Nat) : Int)) (hR.pk (r := linksA _ _ _ b _ _ _) (by repeat (first | with_reducible exact Pk.here | with_reducible apply Pk.there)))) (by decide) ?_); clear hS; intro aa ww vv hS hp
        clear hR
        obtain ⟨rfl, hR⟩ := hp
        rw [allS_nat (by decide)] at hS
        rw [hL21] at hS
        refine sAg hS hR rfl rfl (Yld.neq hS rfl rfl) (by decide) ?_; clear hS; intro aa hS
        replace hS := hS.sayB (t := 110) false rfl (by simp)
        refine sAg hS hR rfl rfl (Yld.pickF hS rfl rfl) (by decide) ?_; clear hS; intro aa hS
        refine sAg hS hR rfl rfl (Yld.move hS rfl) (by decide) ?_; clear hS; intro aa hS
        refine sAg hS hR rfl rfl (Yld.move hS rfl) (by decide) ?_; clear hS; intro aa hS
        refine sBg hS rfl rfl (Bcall hS rfl Try.call26 (LLen_ok (n := 4) (x := ((0 : Nat) : Int)) (hR.pk (r := linksA _ _ _ b _ _ _) (by repeat (first | with_reducible exact Pk.here | with_reducible apply Pk.there)))) (by decide) ?_); clear hS; intro aa ww vv hS hp
        clear hR
        obtain ⟨rfl, hR⟩ := hp
        rw [allS_nat (by decide)] at hS
        rw [hL20] at hS
        refine sAg hS hR rfl rfl (Yld.move hS rfl) (by decide) ?_; clear hS; intro aa hS
        refine sAg hS hR rfl rfl (Yld.len hS rfl Try.underlying27) (by decide) ?_; clear hS; intro aa hS
        refine sAg hS hR rfl rfl ((by first | exact Yld.sub64 hS rfl rfl (by omega) | exact Yld.sub hS rfl rfl)) (by decide) ?_; clear hS; intro aa hS
        refine sAg hS hR rfl rfl (Yld.neq hS rfl rfl) (by decide) ?_; clear hS; intro aa hS
        replace hS := hS.sayB (t := 118) false rfl (by simp; omega)
        refine sAg hS hR rfl rfl (Yld.pickF hS rfl rfl) (by decide) ?_; clear hS; intro aa hS
        refine sAg hS hR rfl rfl (Yld.move hS rfl) (by decide) ?_; clear hS; intro aa hS
        refine sAg hS hR rfl rfl (Yld.move hS rfl) (by decide) ?_; clear hS; intro aa hS
        refine sAg hS hR rfl rfl (Yld.move hS rfl) (by decide) ?_; clear hS; intro aa hS
        refine sBg hS rfl rfl (Bcall hS rfl Try.call30 (whole_ok (n := 4) (hR.pk (r := linksA _ _ _ b _ _ _) (by repeat (first | with_reducible exact Pk.here | with_reducible apply Pk.there)))) (by decide) ?_); clear hS; intro aa ww vv hS hp
        clear hR
        obtain ⟨rfl, hR⟩ := hp
        refine sAg hS hR rfl rfl (Yld.not hS rfl) (by decide) ?_; clear hS; intro aa hS
        replace hS := hS.sayB (t := 124) false rfl (by rfl)
        refine sAg hS hR rfl rfl (Yld.pickF hS rfl rfl) (by decide) ?_; clear hS; intro aa hS
        refine sA hS hR (Yld.pickT hS rfl rfl) (by decide) ?_; clear hS; intro aa hS
        refine wpList_nil ?_
        refine hK423 _ _ ?_
        refine condF hS rfl ?_
        refine wp_skip ?_
        refine hK419 _ _ ?_
        refine wp_region_lit ?_
        refine sA hS hR ((by first | exact Yld.add64 hS rfl rfl (by omega) | exact Yld.add hS rfl rfl)) (by decide) ?_; clear hS; intro aa hS
        refine sA hS hR (Yld.move hS rfl) (by decide) ?_; clear hS; intro aa hS
        refine wpList_nil ?_
        
        refine ⟨(i + 1, _, _), ?_, ?_, hS.le (Le.cons rfl (Le.nilapp (Le.cons rfl (Le.cons rfl (Le.cons rfl (Le.cons rfl (Le.cons rfl (Le.nil _)))))))), hR.sub (Ex.take (by repeat (first | with_reducible exact Pk.here | with_reducible apply Pk.there)) (Ex.take (by repeat (first | with_reducible exact Pk.here | with_reducible apply Pk.there)) (Ex.nilapp (by repeat (first | with_reducible exact Ex.refl | (with_reducible apply Ex.take; · repeat (first | with_reducible exact Pk.here | with_reducible apply Pk.there)) | with_reducible apply Ex.drop)))))⟩
        · dsimp only; exact ⟨by omega, fun h => by omega, fun h => by first | exact hI.2.2 (by omega) | rfl | omega⟩
        · dsimp only; omega
      · intro hg hS
        refine sSkip hS rfl rfl rfl (by decide) ?_; clear hS; intro aa hS
        refine sSkip hS rfl rfl rfl (by decide) ?_; clear hS; intro aa hS
        refine sSkip hS rfl rfl rfl (by decide) ?_; clear hS; intro aa hS
        refine sSkip hS rfl rfl rfl (by decide) ?_; clear hS; intro aa hS
        refine sSkip hS rfl rfl rfl (by decide) ?_; clear hS; intro aa hS
        refine sSkip hS rfl rfl rfl (by decide) ?_; clear hS; intro aa hS
        refine sSkip hS rfl rfl rfl (by decide) ?_; clear hS; intro aa hS
        refine sSkipU hS rfl rfl (by decide) ?_; clear hS; intro aa hS
        refine sSkipU hS rfl rfl (by decide) ?_; clear hS; intro aa hS
        refine sSkipU hS rfl rfl (by decide) ?_; clear hS; intro aa hS
        refine sSkipU hS rfl rfl (by decide) ?_; clear hS; intro aa hS
        refine sSkipU hS rfl rfl (by decide) ?_; clear hS; intro aa hS
        refine sSkipU hS rfl rfl (by decide) ?_; clear hS; intro aa hS
        refine sSkip hS rfl rfl rfl (by decide) ?_; clear hS; intro aa hS
        refine sSkip hS rfl rfl rfl (by decide) ?_; clear hS; intro aa hS
        refine sSkipU hS rfl rfl (by decide) ?_; clear hS; intro aa hS
        refine sSkipU hS rfl rfl (by decide) ?_; clear hS; intro aa hS
        refine sSkipU hS rfl rfl (by decide) ?_; clear hS; intro aa hS
        refine sSkip hS rfl rfl rfl (by decide) ?_; clear hS; intro aa hS
        refine sSkip hS rfl rfl rfl (by decide) ?_; clear hS; intro aa hS
        refine sSkipU hS rfl rfl (by decide) ?_; clear hS; intro aa hS
        refine sSkipU hS rfl rfl (by decide) ?_; clear hS; intro aa hS
        refine sSkipU hS rfl rfl (by decide) ?_; clear hS; intro aa hS
        refine sSkipU hS rfl rfl (by decide) ?_; clear hS; intro aa hS
        refine sSkipU hS rfl rfl (by decide) ?_; clear hS; intro aa hS
        refine sSkipU hS rfl rfl (by decide) ?_; clear hS; intro aa hS
        refine sSkip hS rfl rfl rfl (by decide) ?_; clear hS; intro aa hS
        refine sSkip hS rfl rfl rfl (by decide) ?_; clear hS; intro aa hS
        refine sSkipU hS rfl rfl (by decide) ?_; clear hS; intro aa hS
        refine sSkipU hS rfl rfl (by decide) ?_; clear hS; intro aa hS
        refine sSkipU hS rfl rfl (by decide) ?_; clear hS; intro aa hS
        refine sSkipU hS rfl rfl (by decide) ?_; clear hS; intro aa hS
        refine sSkip hS rfl rfl rfl (by decide) ?_; clear hS; intro aa hS
        refine sA hS hR (Yld.pickF hS rfl rfl) (by decide) ?_; clear hS; intro aa hS
        refine wpList_nil ?_
        refine hK423 _ _ ?_
        refine condF hS rfl ?_
        refine wp_skip ?_
        refine hK419 _ _ ?_
        refine wp_region_lit ?_
        refine sA hS hR ((by first | exact Yld.add64 hS rfl rfl (by omega) | exact Yld.add hS rfl rfl)) (by decide) ?_; clear hS; intro aa hS
        refine sA hS hR (Yld.move hS rfl) (by decide) ?_; clear hS; intro aa hS
        refine wpList_nil ?_
        
        refine ⟨(i + 1, _, _), ?_, ?_, hS.le (Le.cons rfl (Le.nilapp (Le.cons rfl (Le.cons rfl (Le.cons rfl (Le.cons rfl (Le.cons rfl (Le.nil _)))))))), hR.sub (Ex.take (by repeat (first | with_reducible exact Pk.here | with_reducible apply Pk.there)) (Ex.take (by repeat (first | with_reducible exact Pk.here | with_reducible apply Pk.there)) (Ex.nilapp (by repeat (first | with_reducible exact Ex.refl | (with_reducible apply Ex.take; · repeat (first | with_reducible exact Pk.here | with_reducible apply Pk.there)) | with_reducible apply Ex.drop)))))⟩
        · dsimp only; exact ⟨by omega, fun h => by omega, fun h => by first | exact hI.2.2 (by omega) | rfl | omega⟩
        · dsimp only; omega
    ·
      refine sA hS hR ((by first | exact Yld.indexH (sz := 1) (i) hS rfl rfl Try.underlying55 info23 (by assumption) rfl (by first | rfl | omega) (by omega) | exact Yld.indexL (sz := 1) (i) hS rfl rfl Try.underlying55 info23 (by repeat (first | with_reducible exact Pk.here | with_reducible apply Pk.there)) rfl (by first | rfl | omega) (by omega) | exact Yld.indexB (sz := 1) (i) hS rfl rfl Try.underlying55 info23 rfl (by first | rfl | omega) (by omega))) (by decide) ?_; clear hS; intro aa hS
      first
        | (have hF := hI.2.1 (by omega); subst hF)
        | (have hi1 : i = 1 := by omega
           have hG := hI.2.2 (by omega); subst hG)
      try have hi1 : i = 1 := by omega
      refine sA hS hR (Yld.load1 hS rfl Try.underlying23 rfl (Rd.rec0 (k := i) (xs := ([some ⟨b, 0, none⟩, some ⟨b2, 0, none⟩] : List (Option Addr))) (v := .pointer (some ⟨b2, 0, none⟩)) (by repeat (first | with_reducible exact Pk.here | with_reducible apply Pk.there)) (by intro _; rfl) (by show i < 2; omega) (by simp only [hi1]; rfl))) (by decide) ?_; clear hS; intro aa hS
      refine sA hS hR (Yld.assign hS rfl) (by decide) ?_; clear hS; intro aa hS
      refine wpList_nil ?_
      refine hK420 _ _ ?_
      refine wp_seq_k ?_; intro K424 hK424
      refine wp_seq_k ?_; intro K425 hK425
      refine wp_region_lit ?_
      refine sA hS hR (Yld.move hS rfl) (by decide) ?_; clear hS; intro aa hS
      refine sA hS hR (Yld.move hS rfl) (by decide) ?_; clear hS; intro aa hS
      refine sB (Bcall hS rfl Try.call30 (whole_ok (n := 4) (L := joined L) (hR.pk (r := linksA _ _ _ b2 _ _ _) (by repeat (first | with_reducible exact Pk.here | with_reducible apply Pk.there)))) (by decide) ?_); clear hS; intro aa ww vv hS hp
      clear hR
      obtain ⟨rfl, hR⟩ := hp
      refine sA hS hR (Yld.not hS rfl) (by decide) ?_; clear hS; intro aa hS
      replace hS := hS.sayB (t := 66) false rfl (by rfl)
      refine sA hS hR (Yld.move hS rfl) (by decide) ?_; clear hS; intro aa hS
      refine sAg hS hR rfl rfl (Yld.move hS rfl) (by decide) ?_; clear hS; intro aa hS
      refine sBg hS rfl rfl (Bcall hS rfl Try.call10 (LAll_ok (n := 4) (q := ((0 : Nat) : Int)) (hR.pk (r := linksA _ _ _ b2 _ _ _) (by repeat (first | with_reducible exact Pk.here | with_reducible apply Pk.there)))) (by decide) ?_); clear hS; intro aa ww vv hS hp
      clear hR
      obtain ⟨ra, ca, rfl, hR⟩ := hp
      rw [allS_nat (by decide)] at hS hR
      rw [hWJ] at hS hR
      have hs1 : IntsAt _ ra Wt := hR.intsSls (r := ra) (by repeat (first | with_reducible exact Pk.here | with_reducible apply Pk.there))
      have hs2 : IntsAt _ rW Wt := hR.intsSls (r := rW) (by repeat (first | with_reducible exact Pk.here | with_reducible apply Pk.there))
      refine sAg hS hR rfl rfl (Yld.move hS rfl) (by decide) ?_; clear hS; intro aa hS
      refine sBg hS rfl rfl (Bcall hS rfl Try.call18 (SameInts_ok hR hs1 hs2 (by omega) (by omega)) (by decide) ?_); clear hS; intro aa ww vv hS hp
      clear hR
      obtain ⟨rfl, hR⟩ := hp
      replace hS := hS.sayB (t := 71) true rfl (by simp)
      refine sAg hS hR rfl rfl (Yld.not hS rfl) (by decide) ?_; clear hS; intro aa hS
      refine sA hS hR (Yld.pickF hS rfl rfl) (by decide) ?_; clear hS; intro aa hS
      refine sA hS hR (Yld.move hS rfl) (by decide) ?_; clear hS; intro aa hS
      refine sAg hS hR rfl rfl (Yld.move hS rfl) (by decide) ?_; clear hS; intro aa hS
      refine sBg hS rfl rfl (Bcall hS rfl Try.call26 (LLen_ok (n := 4) (x := ((1 : Nat) : Int)) (hR.pk (r := linksA _ _ _ b2 _ _ _) (by repeat (first | with_reducible exact Pk.here | with_reducible apply Pk.there)))) (by decide) ?_); clear hS; intro aa ww vv hS hp
      clear hR
      obtain ⟨rfl, hR⟩ := hp
      rw [allS_nat (by decide)] at hS
      refine sAg hS hR rfl rfl (Yld.move hS rfl) (by decide) ?_; clear hS; intro aa hS
      refine sBg hS rfl rfl (Bcall hS rfl Try.call26 (LLen_ok (n := 4) (x := ((2 : Nat) : Int)) (hR.pk (r := linksA _ _ _ b2 _ _ _) (by repeat (first | with_reducible exact Pk.here | with_reducible apply Pk.there)))) (by decide) ?_); clear hS; intro aa ww vv hS hp
      clear hR
      obtain ⟨rfl, hR⟩ := hp
      rw [allS_nat (by decide)] at hS
      refine sAg hS hR rfl rfl ((by first | exact Yld.add64 hS rfl rfl (by omega) | exact Yld.add hS rfl rfl)) (by decide) ?_; clear hS; intro aa hS
      refine sAg hS hR rfl rfl (Yld.neq hS rfl rfl) (by decide) ?_; clear hS; intro aa hS
      replace hS := hS.sayB (t := 80) false rfl (by rfl)
      refine sA hS hR (Yld.pickF hS rfl rfl) (by decide) ?_; clear hS; intro aa hS
      refine sA hS hR (Yld.move hS rfl) (by decide) ?_; clear hS; intro aa hS
      refine sAg hS hR rfl rfl (Yld.move hS rfl) (by decide) ?_; clear hS; intro aa hS
      refine sBg hS rfl rfl (Bcall hS rfl Try.call10 (LAll_ok (n := 4) (q := ((3 : Nat) : Int)) (hR.pk (r := linksA _ _ _ b2 _ _ _) (by repeat (first | with_reducible exact Pk.here | with_reducible apply Pk.there)))) (by decide) ?_); clear hS; intro aa ww vv hS hp
      clear hR
      obtain ⟨ra, ca, rfl, hR⟩ := hp
      rw [allS_nat (by decide)] at hS hR
      rw [show joined L 3 = L 3 from rfl] at hS hR
      have hs3 : IntsAt _ ra (cst (L 3)) := hR.intsSls (r := ra) (by repeat (first | with_reducible exact Pk.here | with_reducible apply Pk.there))
      have hs4 : IntsAt _ r3 (cst (L 3)) := hR.intsSls (r := r3) (by repeat (first | with_reducible exact Pk.here | with_reducible apply Pk.there))
      refine sAg hS hR rfl rfl (Yld.move hS rfl) (by decide) ?_; clear hS; intro aa hS
      refine sBg hS rfl rfl (Bcall hS rfl Try.call18 (SameInts_ok hR hs3 hs4 (by omega) (by omega)) (by decide) ?_); clear hS; intro aa ww vv hS hp
      clear hR
      obtain ⟨rfl, hR⟩ := hp
      replace hS := hS.sayB (t := 86) true rfl (by simp)
      refine sAg hS hR rfl rfl (Yld.not hS rfl) (by decide) ?_; clear hS; intro aa hS
      refine sA hS hR (Yld.pickF hS rfl rfl) (by decide) ?_; clear hS; intro aa hS
      refine wpList_nil ?_
      refine hK425 _ _ ?_
      refine condF hS rfl ?_
      refine wp_skip ?_
      refine hK424 _ _ ?_
      refine wp_seq_k ?_; intro K426 hK426
      refine wp_region_lit ?_
      refine sA hS hR (Yld.move hS rfl) (by decide) ?_; clear hS; intro aa hS
      refine sA hS hR (Yld.len hS rfl Try.underlying27) (by decide) ?_; clear hS; intro aa hS
      refine sA hS hR (Yld.gtr hS rfl rfl) (by decide) ?_; clear hS; intro aa hS
      refine sA hS hR (Yld.move hS rfl) (by decide) ?_; clear hS; intro aa hS
      refine hS.splitB (t := 92) rfl ?_ ?_ <;> clear hS
      · intro hg hS
        obtain ⟨p, tl, hJ0⟩ : ∃ p tl, joined L 0 = p :: tl := by
          cases e : joined L 0 with
          | nil => rw [e] at hWJ; rw [← hWJ] at hg; simp [cst] at hg
          | cons p tl => exact ⟨p, tl, rfl⟩
        have hW0 : Wt = (p : Int) :: cst tl := by rw [← hWJ, hJ0]; rfl
        have hWJL := (hR.pk (r := linksA _ _ _ b2 _ _ _) (by repeat (first | with_reducible exact Pk.here | with_reducible apply Pk.there))).linksWL
        have hpm : p ∈ joined L 0 := by rw [hJ0]; exact List.mem_cons_self
        have hpS := hWJL.lt 0 (by decide) p hpm
        have hof := hWJL.ofL (i := 0) (by decide) hpm
        have hno := hWJL.ofOut (i := 0) (by decide) hpm
        have htl : (joined L 0).erase p = tl := by rw [hJ0, List.erase_cons_head]
        have hWtl : Wt.length = tl.length + 1 := by rw [hW0]; simp [cst]
        refine sAg hS hR rfl rfl (Yld.move hS rfl) (by decide) ?_; clear hS; intro aa hS
        refine sAg hS hR rfl rfl (Yld.move hS rfl) (by decide) ?_; clear hS; intro aa hS
        refine sAg hS hR rfl rfl ((by first | exact Yld.indexH (sz := 1) (0) hS rfl rfl Try.underlying27 info3 (by assumption) rfl (by first | rfl | omega) (by omega) | exact Yld.indexL (sz := 1) (0) hS rfl rfl Try.underlying27 info3 (by repeat (first | with_reducible exact Pk.here | with_reducible apply Pk.there)) rfl (by first | rfl | omega) (by omega) | exact Yld.indexB (sz := 1) (0) hS rfl rfl Try.underlying27 info3 rfl (by first | rfl | omega) (by omega))) (by decide) ?_; clear hS; intro aa hS
        refine sAg hS hR rfl rfl (Yld.load1 hS rfl Try.underlying3 rfl (Rd.rec0 (k := 0) (xs := Wt) (v := .int .i64 ((p : Nat) : Int)) (by repeat (first | with_reducible exact Pk.here | with_reducible apply Pk.there)) (by intro _; rfl) (by omega) (by simp only [hW0]; rfl))) (by decide) ?_; clear hS; intro aa hS
        refine sBg hS rfl rfl (Bcall hS rfl Try.call16 (LOut_ok (n := 4) (x := (p : Int)) (hR.pk (r := linksA _ _ _ b2 _ _ _) (by repeat (first | with_reducible exact Pk.here | with_reducible apply Pk.there)))) (by decide) ?_); clear hS; intro aa ww vv hS hp
        clear hR
        obtain ⟨rfl, hR⟩ := hp
        rw [outE_has hpS hof] at hS
        rw [outS_has hpS hof] at hR
        refine sAg hS hR rfl rfl (Yld.neq hS rfl rfl) (by decide) ?_; clear hS; intro aa hS
        replace hS := hS.sayB (t := 98) false rfl (by decide)
        refine sAg hS hR rfl rfl (Yld.move hS rfl) (by decide) ?_; clear hS; intro aa hS
        refine sAg hS hR rfl rfl (Yld.move hS rfl) (by decide) ?_; clear hS; intro aa hS
        refine sAg hS hR rfl rfl (Yld.move hS rfl) (by decide) ?_; clear hS; intro aa hS
        refine sAg hS hR rfl rfl ((by first | exact Yld.indexH (sz := 1) (0) hS rfl rfl Try.underlying27 info3 (by assumption) rfl (by first | rfl | omega) (by omega) | exact Yld.indexL (sz := 1) (0) hS rfl rfl Try.underlying27 info3 (by repeat (first | with_reducible exact Pk.here | with_reducible apply Pk.there)) rfl (by first | rfl | omega) (by omega) | exact Yld.indexB (sz := 1) (0) hS rfl rfl Try.underlying27 info3 rfl (by first | rfl | omega) (by omega))) (by decide) ?_; clear hS; intro aa hS
        refine sAg hS hR rfl rfl (Yld.load1 hS rfl Try.underlying3 rfl (Rd.rec0 (k := 0) (xs := Wt) (v := .int .i64 ((p : Nat) : Int)) (by repeat (first | with_reducible exact Pk.here | with_reducible apply Pk.there)) (by intro _; rfl) (by omega) (by simp only [hW0]; rfl))) (by decide) ?_; clear hS; intro aa hS
        refine sBg hS rfl rfl (Bcall hS rfl Try.call17 (LBack_ok (n := 4) (x := ((1 : Nat) : Int)) (y := (p : Int)) (hR.pk (r := linksA _ _ _ b2 _ _ _) (by repeat (first | with_reducible exact Pk.here | with_reducible apply Pk.there)))) (by decide) ?_); clear hS; intro aa ww vv hS hp
        clear hR
        obtain ⟨rfl, hR⟩ := hp
        rw [addE_new (by decide) hpS hno] at hS
        rw [addS_new (by decide) hpS hno] at hR
        obtain ⟨L2, hL2⟩ : ∃ y, upd (upd (joined L) 0 ((joined L 0).erase p)) 1 (addL 1 (upd (joined L) 0 ((joined L 0).erase p) 1) p) = y := ⟨_, rfl⟩
        rw [hL2] at hR
        have hL21 : L2 1 = [p] := by rw [← hL2]; rfl
        have hL20 : L2 0 = tl := by rw [← hL2, htl]; rfl
        refine sAg hS hR rfl rfl (Yld.neq hS rfl rfl) (by decide) ?_; clear hS; intro aa hS
        replace hS := hS.sayB (t := 105) false rfl (by decide)
        refine sAg hS hR rfl rfl (Yld.pickF hS rfl rfl) (by decide) ?_; clear hS; intro aa hS
        refine sAg hS hR rfl rfl (Yld.move hS rfl) (by decide) ?_; clear hS; intro aa hS
        refine sAg hS hR rfl rfl (Yld.move hS rfl) (by decide) ?_; clear hS; intro aa hS
        refine sBg hS rfl rfl (Bcall hS rfl Try.call26 (LLen_ok (n := 4) (x := ((1 : Nat) : Int)) (hR.pk (r := linksA _ _ _ b2 _ _ _) (by repeat (first | with_reducible exact Pk.here | with_reducible apply Pk.there)))) (by decide) ?_); clear hS; intro aa ww vv hS hp
        clear hR
        obtain ⟨rfl, hR⟩ := hp
        rw [allS_nat (by decide)] at hS
        rw [hL21] at hS
        refine sAg hS hR rfl rfl (Yld.neq hS rfl rfl) (by decide) ?_; clear hS; intro aa hS
        replace hS := hS.sayB (t := 110) false rfl (by simp)
        refine sAg hS hR rfl rfl (Yld.pickF hS rfl rfl) (by decide) ?_; clear hS; intro aa hS
        refine sAg hS hR rfl rfl (Yld.move hS rfl) (by decide) ?_; clear hS; intro aa hS
        refine sAg hS hR rfl rfl (Yld.move hS rfl) (by decide) ?_; clear hS; intro aa hS
        refine sBg hS rfl rfl (Bcall hS rfl Try.call26 (LLen_ok (n := 4) (x := ((0 : Nat) : Int)) (hR.pk (r := linksA _ _ _ b2 _ _ _) (by repeat (first | with_reducible exact Pk.here | with_reducible apply Pk.there)))) (by decide) ?_); clear hS; intro aa ww vv hS hp
        clear hR
        obtain ⟨rfl, hR⟩ := hp
        rw [allS_nat (by decide)] at hS
        rw [hL20] at hS
        refine sAg hS hR rfl rfl (Yld.move hS rfl) (by decide) ?_; clear hS; intro aa hS
        refine sAg hS hR rfl rfl (Yld.len hS rfl Try.underlying27) (by decide) ?_; clear hS; intro aa hS
        refine sAg hS hR rfl rfl ((by first | exact Yld.sub64 hS rfl rfl (by omega) | exact Yld.sub hS rfl rfl)) (by decide) ?_; clear hS; intro aa hS
        refine sAg hS hR rfl rfl (Yld.neq hS rfl rfl) (by decide) ?_; clear hS; intro aa hS
        replace hS := hS.sayB (t := 118) false rfl (by simp; omega)
        refine sAg hS hR rfl rfl (Yld.pickF hS rfl rfl) (by decide) ?_; clear hS; intro aa hS
        refine sAg hS hR rfl rfl (Yld.move hS rfl) (by decide) ?_; clear hS; intro aa hS
        refine sAg hS hR rfl rfl (Yld.move hS rfl) (by decide) ?_; clear hS; intro aa hS
        refine sAg hS hR rfl rfl (Yld.move hS rfl) (by decide) ?_; clear hS; intro aa hS
        refine sBg hS rfl rfl (Bcall hS rfl Try.call30 (whole_ok (n := 4) (hR.pk (r := linksA _ _ _ b2 _ _ _) (by repeat (first | with_reducible exact Pk.here | with_reducible apply Pk.there)))) (by decide) ?_); clear hS; intro aa ww vv hS hp
        clear hR
        obtain ⟨rfl, hR⟩ := hp
        refine sAg hS hR rfl rfl (Yld.not hS rfl) (by decide) ?_; clear hS; intro aa hS
        replace hS := hS.sayB (t := 124) false rfl (by rfl)
        refine sAg hS hR rfl rfl (Yld.pickF hS rfl rfl) (by decide) ?_; clear hS; intro aa hS
        refine sA hS hR (Yld.pickT hS rfl rfl) (by decide) ?_; clear hS; intro aa hS
        refine wpList_nil ?_
        refine hK426 _ _ ?_
        refine condF hS rfl ?_
        refine wp_skip ?_
        refine hK419 _ _ ?_
        refine wp_region_lit ?_
        refine sA hS hR ((by first | exact Yld.add64 hS rfl rfl (by omega) | exact Yld.add hS rfl rfl)) (by decide) ?_; clear hS; intro aa hS
        refine sA hS hR (Yld.move hS rfl) (by decide) ?_; clear hS; intro aa hS
        refine wpList_nil ?_
        
        refine ⟨(i + 1, _, _), ?_, ?_, hS.le (Le.cons rfl (Le.nilapp (Le.cons rfl (Le.cons rfl (Le.cons rfl (Le.cons rfl (Le.cons rfl (Le.nil _)))))))), hR.sub (Ex.take (by repeat (first | with_reducible exact Pk.here | with_reducible apply Pk.there)) (Ex.take (by repeat (first | with_reducible exact Pk.here | with_reducible apply Pk.there)) (Ex.nilapp (by repeat (first | with_reducible exact Ex.refl | (with_reducible apply Ex.take; · repeat (first | with_reducible exact Pk.here | with_reducible apply Pk.there)) | with_reducible apply Ex.drop)))))⟩
        · dsimp only; exact ⟨by omega, fun h => by omega, fun h => by first | exact hI.2.2 (by omega) | rfl | omega⟩
        · dsimp only; omega
      · intro hg hS
        refine sSkip hS rfl rfl rfl (by decide) ?_; clear hS; intro aa hS
        refine sSkip hS rfl rfl rfl (by decide) ?_; clear hS; intro aa hS
        refine sSkip hS rfl rfl rfl (by decide) ?_; clear hS; intro aa hS
        refine sSkip hS rfl rfl rfl (by decide) ?_; clear hS; intro aa hS
        refine sSkip hS rfl rfl rfl (by decide) ?_; clear hS; intro aa hS
        refine sSkip hS rfl rfl rfl (by decide) ?_; clear hS; intro aa hS
        refine sSkip hS rfl rfl rfl (by decide) ?_; clear hS; intro aa hS
        refine sSkipU hS rfl rfl (by decide) ?_; clear hS; intro aa hS
        refine sSkipU hS rfl rfl (by decide) ?_; clear hS; intro aa hS
        refine sSkipU hS rfl rfl (by decide) ?_; clear hS; intro aa hS
        refine sSkipU hS rfl rfl (by decide) ?_; clear hS; intro aa hS
        refine sSkipU hS rfl rfl (by decide) ?_; clear hS; intro aa hS
        refine sSkipU hS rfl rfl (by decide) ?_; clear hS; intro aa hS
        refine sSkip hS rfl rfl rfl (by decide) ?_; clear hS; intro aa hS
        refine sSkip hS rfl rfl rfl (by decide) ?_; clear hS; intro aa hS
        refine sSkipU hS rfl rfl (by decide) ?_; clear hS; intro aa hS
        refine sSkipU hS rfl rfl (by decide) ?_; clear hS; intro aa hS
        refine sSkipU hS rfl rfl (by decide) ?_; clear hS; intro aa hS
        refine sSkip hS rfl rfl rfl (by decide) ?_; clear hS; intro aa hS
        refine sSkip hS rfl rfl rfl (by decide) ?_; clear hS; intro aa hS
        refine sSkipU hS rfl rfl (by decide) ?_; clear hS; intro aa hS
        refine sSkipU hS rfl rfl (by decide) ?_; clear hS; intro aa hS
        refine sSkipU hS rfl rfl (by decide) ?_; clear hS; intro aa hS
        refine sSkipU hS rfl rfl (by decide) ?_; clear hS; intro aa hS
        refine sSkipU hS rfl rfl (by decide) ?_; clear hS; intro aa hS
        refine sSkipU hS rfl rfl (by decide) ?_; clear hS; intro aa hS
        refine sSkip hS rfl rfl rfl (by decide) ?_; clear hS; intro aa hS
        refine sSkip hS rfl rfl rfl (by decide) ?_; clear hS; intro aa hS
        refine sSkipU hS rfl rfl (by decide) ?_; clear hS; intro aa hS
        refine sSkipU hS rfl rfl (by decide) ?_; clear hS; intro aa hS
        refine sSkipU hS rfl rfl (by decide) ?_; clear hS; intro aa hS
        refine sSkipU hS rfl rfl (by decide) ?_; clear hS; intro aa hS
        refine sSkip hS rfl rfl rfl (by decide) ?_; clear hS; intro aa hS
        refine sA hS hR (Yld.pickF hS rfl rfl) (by decide) ?_; clear hS; intro aa hS
        refine wpList_nil ?_
        refine hK426 _ _ ?_
        refine condF hS rfl ?_
        refine wp_skip ?_
        refine hK419 _ _ ?_
        refine wp_region_lit ?_
        refine sA hS hR ((by first | exact Yld.add64 hS rfl rfl (by omega) | exact Yld.add hS rfl rfl)) (by decide) ?_; clear hS; intro aa hS
        refine sA hS hR (Yld.move hS rfl) (by decide) ?_; clear hS; intro aa hS
        refine wpList_nil ?_
        
        refine ⟨(i + 1, _, _), ?_, ?_, hS.le (Le.cons rfl (Le.nilapp (Le.cons rfl (Le.cons rfl (Le.cons rfl (Le.cons rfl (Le.cons rfl (Le.nil _)))))))), hR.sub (Ex.take (by repeat (first | with_reducible exact Pk.here | with_reducible apply Pk.there)) (Ex.take (by repeat (first | with_reducible exact Pk.here | with_reducible apply Pk.there)) (Ex.nilapp (by repeat (first | with_reducible exact Ex.refl | (with_reducible apply Ex.take; · repeat (first | with_reducible exact Pk.here | with_reducible apply Pk.there)) | with_reducible apply Ex.drop)))))⟩
        · dsimp only; exact ⟨by omega, fun h => by omega, fun h => by first | exact hI.2.2 (by omega) | rfl | omega⟩
        · dsimp only; omega
  · intro hg hS
    refine condF hS rfl ?_
    refine wp_exit ?_
    refine hK414 _ _ ?_
    refine wp_seq_k ?_; intro K427 hK427
    refine wp_region_lit ?_
    refine sB (Bcall hS rfl Try.call15 (awake_ok hR) (by decide) ?_); clear hS; intro aa ww vv hS hp
    clear hR
    obtain ⟨rfl, hR⟩ := hp
    refine sA hS hR (Yld.assign hS rfl) (by decide) ?_; clear hS; intro aa hS
    refine wpList_nil ?_
    refine hK427 _ _ ?_
    refine wp_ret ?_
    repeat (first | with_reducible refine thenR ?_ | with_reducible refine blockR ?_ | with_reducible refine scopeR ?_)
    refine ret1 (fn := Try.f7) (e := .ret) (.inl rfl) Try.results7 hS hR ⟨_, (.tmp rfl), ?_⟩
    exact ⟨rfl, (hR.sub (by repeat (first | with_reducible exact Ex.refl | (with_reducible apply Ex.take; · repeat (first | with_reducible exact Pk.here | with_reducible apply Pk.there)) | with_reducible apply Ex.drop)))⟩
end Go.Proofs.Ytcokognhodjfgaa.Sx
