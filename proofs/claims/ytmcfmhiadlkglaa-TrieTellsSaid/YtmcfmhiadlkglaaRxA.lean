/-
  
-/
import Derived.Test.YtmcfmhiadlkglaaTrK
import Derived.Test.YtmcfmhiadlkglaaPf
namespace Go.Proofs.Ytmcfmhiadlkglaa.Sx
open Go
set_option linter.unusedVariables false
set_option linter.unusedSimpArgs false

theorem info64 : Try.prog.info? 64 = some Try.t64 := by kernel_rfl

set_option maxHeartbeats 4000000 in
set_option maxRecDepth 20000 in
theorem Digits_ok {k : Ky} {l : List HP} {w : World} (hR : Sep l w) (hk : WfK k) : CallR Try.prog 29 [vK k] w (fun v w' => v = .agg ((dl k).flatMap e1).toArray ∧ Sep l w') := by
  refine enter Try.func29 rfl Try.ntmps29 (Nat.le_of_ble_eq_true rfl) ?_; intro aa hS
  have q1 := hk.p; have q2 := hk.s; have q3 := hk.d; have q4 := hk.a; have q5 := hk.b
  refine wp_seq_k ?_; intro K349 hK349
  refine wp_region_lit ?_
  refine sB (Bbox hS hR rfl (by rfl) (by decide) ?_); clear hS hR; intro aa ww bb1 hS hR
  refine sB (Balloc hS hR info64 (by rfl) (by rfl) (by decide) ?_); clear hS hR; intro aa ww bb2 hS hR
  refine wpList_nil ?_
  refine hK349 _ _ ?_
  refine wp_seq_k ?_; intro K350 hK350
  refine wp_region_lit ?_
  refine sB (Balloc hS hR info64 (by rfl) (by rfl) (by decide) ?_); clear hS hR; intro aa ww bb3 hS hR
  replace hR := hR.pk (r := blk bb3 _ _) pkQ
  change Sep (blk bb3 ((tab 26 (fun _ => (0 : Int))).flatMap e1) 64 :: _) _ at hR
  refine wpList_nil ?_
  refine hK350 _ _ ?_
  refine wp_seq_k ?_; intro K351 hK351
  refine wp_seq_k ?_; intro K352 hK352
  refine wp_region_lit ?_
  refine sA hS hR (Yld.assign hS rfl) (by decide) ?_; clear hS; intro aa hS
  refine wpList_nil ?_
  refine hK352 _ _ ?_
  refine wp_block ?_
  replace hR := hR.pk (r := blk bb3 ((tab 26 (fun _ => (0 : Int))).flatMap e1) 64) pkQ
  refine loopI (X := Nat × (Nat → Int)) [(1, _), (2, _), (3, _)] (fun x => [(4, .int .i64 (x.1 : Int))]) (fun x => [blk bb3 ((tab 26 x.2).flatMap e1) 64]) _ (fun x => x.1 ≤ 8 ∧ (∀ j, j < x.1 → x.2 j = dig k j) ∧ (∀ j, j < x.1 → x.2 (8 + j) = dig k (8 + j))) (fun x => 8 - x.1) (0, fun _ => 0) ⟨Nat.zero_le _, fun j h => by omega, fun j h => by omega⟩ (hS.le (Le.cons rfl (Le.nilapp (Le.cons rfl (Le.cons rfl (Le.cons rfl (Le.nil _))))))) hR ?_
  clear hS hR; rintro ⟨i, f⟩ aa ww hI hS hR; dsimp only [List.cons_append, List.nil_append] at hI hS hR
  refine wp_seq_k ?_; intro K354 hK354
  refine wp_seq_k ?_; intro K355 hK355
  refine wp_region_lit ?_
  refine sA hS hR (Yld.move hS rfl) (by decide) ?_; clear hS; intro aa hS
  refine sA hS hR (Yld.lss hS rfl rfl) (by decide) ?_; clear hS; intro aa hS
  refine wpList_nil ?_
  refine hK355 _ _ ?_
  refine hS.splitB (t := 7) rfl ?_ ?_ <;> clear hS
  · intro hg hS
    refine condT hS rfl ?_
    refine wp_skip ?_
    refine hK354 _ _ ?_
    refine wp_seq_k ?_; intro K356 hK356
    refine wp_block ?_
    refine wp_seq_k ?_; intro K357 hK357
    refine wp_region_lit ?_
    refine sA hS hR (Yld.move hS rfl) (by decide) ?_; clear hS; intro aa hS
    refine sA hS hR (Yld.fieldAddr hS rfl 1 Try.underlying34 rfl rfl info31 (by decide)) (by decide) ?_; clear hS; intro aa hS
    refine sA hS hR (Yld.load1 hS rfl Try.underlying31 rfl (by first | exact Rd.blk pkQ (by rfl) | exact Rd.rec pkQ (by intro _; rfl) (by omega) rfl | exact Rd.rec0 pkQ (by intro _; rfl) (by omega) rfl | exact Rd.flatJ pkQ (by intro _; rfl) (by omega) rfl | exact Rd.flat0 pkQ (by intro _; rfl) (by omega) rfl)) (by decide) ?_; clear hS; intro aa hS
    refine sA hS hR (Yld.move hS rfl) (by decide) ?_; clear hS; intro aa hS
    refine sA hS hR ((by first | exact Yld.mul64 hS rfl rfl (by omega) | exact Yld.mul hS rfl rfl)) (by decide) ?_; clear hS; intro aa hS
    refine sA hS hR ((by first | exact Yld.sub64 hS rfl rfl (by omega) | exact Yld.sub hS rfl rfl)) (by decide) ?_; clear hS; intro aa hS
    refine sA hS hR (Yld.to (Yld.shrL (4 * (7 - i)) ((16 ^ (7 - i) : Nat) : Int) hS rfl rfl (by omega) (by show _ ≤ 32; omega) (pow16 _)) (congrArg (Value.int .u32) (shr_dig (by omega)))) (by decide) ?_; clear hS; intro aa hS
    obtain ⟨y, hye⟩ : ∃ y : Nat, k.2.1.toNat / 16 ^ (7 - i) = y := ⟨_, rfl⟩
    have hyl : y ≤ k.2.1.toNat := hye ▸ Nat.div_le_self _ _
    have hyd : ((y % 16 : Nat) : Int) = dig k (i) := by rw [dig_s hk (by omega), ← hye]
    rw [hye] at hS
    refine sA hS hR ((by first | exact Yld.to (Yld.convInt hS rfl rfl Try.underlying3) (congrArg (Value.int .i64) (IntWalk.i64_in _ (by omega))) | exact Yld.convInt hS rfl rfl Try.underlying3)) (by decide) ?_; clear hS; intro aa hS
    refine sA hS hR ((by first | exact Yld.rem64 hS rfl rfl (by omega) | exact Yld.rem hS rfl rfl (by omega))) (by decide) ?_; clear hS; intro aa hS
    replace hS := hS.say (t := 18) (.int .i64 (dig k (i))) rfl (by rw [← hyd, Int.natCast_emod]; rfl)
    refine sA hS hR (Yld.to (u := .pointer (some ⟨bb3, i, none⟩)) (Yld.indexArr hS rfl rfl Try.underlying64 info3 (by omega) (by omega)) (by have h1 : (Try.t3).size = 1 := rfl; rw [h1]; congr 3 <;> omega)) (by decide) ?_; clear hS; intro aa hS
    refine sB (BstoreJ hS hR rfl rfl info3 rfl pkQ (by omega) ?_); clear hR; intro ww hR
    refine wpList_nil ?_
    refine hK357 _ _ ?_
    refine wp_region_lit ?_
    refine sA hS hR (Yld.move hS rfl) (by decide) ?_; clear hS; intro aa hS
    refine sA hS hR ((by first | exact Yld.add64 hS rfl rfl (by omega) | exact Yld.add hS rfl rfl)) (by decide) ?_; clear hS; intro aa hS
    refine sA hS hR (Yld.fieldAddr hS rfl 2 Try.underlying34 rfl rfl info31 (by decide)) (by decide) ?_; clear hS; intro aa hS
    refine sA hS hR (Yld.load1 hS rfl Try.underlying31 rfl (by first | exact Rd.blk pkQ (by rfl) | exact Rd.rec pkQ (by intro _; rfl) (by omega) rfl | exact Rd.rec0 pkQ (by intro _; rfl) (by omega) rfl | exact Rd.flatJ pkQ (by intro _; rfl) (by omega) rfl | exact Rd.flat0 pkQ (by intro _; rfl) (by omega) rfl)) (by decide) ?_; clear hS; intro aa hS
    refine sA hS hR (Yld.move hS rfl) (by decide) ?_; clear hS; intro aa hS
    refine sA hS hR ((by first | exact Yld.mul64 hS rfl rfl (by omega) | exact Yld.mul hS rfl rfl)) (by decide) ?_; clear hS; intro aa hS
    refine sA hS hR ((by first | exact Yld.sub64 hS rfl rfl (by omega) | exact Yld.sub hS rfl rfl)) (by decide) ?_; clear hS; intro aa hS
    refine sA hS hR (Yld.to (Yld.shrL (4 * (7 - i)) ((16 ^ (7 - i) : Nat) : Int) hS rfl rfl (by omega) (by show _ ≤ 32; omega) (pow16 _)) (congrArg (Value.int .u32) (shr_dig (by omega)))) (by decide) ?_; clear hS; intro aa hS
    obtain ⟨y, hye⟩ : ∃ y : Nat, k.2.2.1.toNat / 16 ^ (7 - i) = y := ⟨_, rfl⟩
    have hyl : y ≤ k.2.2.1.toNat := hye ▸ Nat.div_le_self _ _
    have hyd : ((y % 16 : Nat) : Int) = dig k (8 + i) := by rw [dig_d hk (by omega) (by omega), ← hye, show 15 - (8 + i) = 7 - i from by omega]
    rw [hye] at hS
    refine sA hS hR ((by first | exact Yld.to (Yld.convInt hS rfl rfl Try.underlying3) (congrArg (Value.int .i64) (IntWalk.i64_in _ (by omega))) | exact Yld.convInt hS rfl rfl Try.underlying3)) (by decide) ?_; clear hS; intro aa hS
    refine sA hS hR ((by first | exact Yld.rem64 hS rfl rfl (by omega) | exact Yld.rem hS rfl rfl (by omega))) (by decide) ?_; clear hS; intro aa hS
    replace hS := hS.say (t := 29) (.int .i64 (dig k (8 + i))) rfl (by rw [← hyd, Int.natCast_emod]; rfl)
    refine sA hS hR (Yld.to (u := .pointer (some ⟨bb3, 8 + i, none⟩)) (Yld.indexArr hS rfl rfl Try.underlying64 info3 (by omega) (by omega)) (by have h1 : (Try.t3).size = 1 := rfl; rw [h1]; congr 3 <;> omega)) (by decide) ?_; clear hS; intro aa hS
    refine sB (BstoreJ hS hR rfl rfl info3 rfl pkQ (by omega) ?_); clear hR; intro ww hR
    refine wpList_nil ?_
    refine hK356 _ _ ?_
    refine wp_region_lit ?_
    refine sA hS hR (Yld.move hS rfl) (by decide) ?_; clear hS; intro aa hS
    refine sA hS hR ((by first | exact Yld.add64 hS rfl rfl (by omega) | exact Yld.add hS rfl rfl)) (by decide) ?_; clear hS; intro aa hS
    refine sA hS hR (Yld.assign hS rfl) (by decide) ?_; clear hS; intro aa hS
    refine wpList_nil ?_
    
    refine ⟨(i + 1, _), ?_, ?_, hS.le (Le.cons rfl (Le.nilapp (Le.cons rfl (Le.cons rfl (Le.cons rfl (Le.nil _)))))), hR.sub (Ex.take pkQ (Ex.nilapp exQ))⟩
    · dsimp only; exact ⟨by omega, fun j hj => by
        unfold upd; rw [if_neg (by omega)]
        by_cases e : j = i
        · rw [if_pos e, e]
        · rw [if_neg e]; exact hI.2.1 j (by omega), fun j hj => by
        unfold upd
        by_cases e : j = i
        · rw [if_pos (by omega), e]
        · rw [if_neg (by omega), if_neg (by omega)]; exact hI.2.2 j (by omega)⟩
    · dsimp only; omega
  · intro hg hS
    obtain rfl : i = 8 := by omega
    have hI0 := hI
    refine condF hS rfl ?_
    refine wp_exit ?_
    refine hK351 _ _ ?_
    refine wp_seq_k ?_; intro K358 hK358
    refine drawn (by kernel_rfl) hR (Ex.of_pk (r := blk bb3 _ _) pkQ) ?_; clear hR; intro ww hR hR0
    refine dA 0 rfl (by kernel_rfl) (by kernel_rfl) (by kernel_rfl) (fun _ _ _ h => h) hS hR0 (Yld.fieldAddr hS rfl 0 Try.underlying34 rfl rfl info5 (by decide)) (by decide) ?_; clear hS; intro aa hS
    refine dA 1 rfl (by kernel_rfl) (by kernel_rfl) (by kernel_rfl) (fun _ _ _ h => h) hS hR0 (Yld.load1 hS rfl Try.underlying5 rfl (by first | exact Rd.blk pkQ (by rfl) | exact Rd.rec pkQ (by intro _; rfl) (by omega) rfl | exact Rd.rec0 pkQ (by intro _; rfl) (by omega) rfl | exact Rd.flatJ pkQ (by intro _; rfl) (by omega) rfl | exact Rd.flat0 pkQ (by intro _; rfl) (by omega) rfl)) (by decide) ?_; clear hS; intro aa hS
    refine dA 2 rfl (by kernel_rfl) (by kernel_rfl) (by kernel_rfl) (fun _ _ _ h => h) hS hR0 ((by first | exact Yld.to (Yld.convInt hS rfl rfl Try.underlying3) (congrArg (Value.int .i64) (IntWalk.i64_in _ (by omega))) | exact Yld.convInt hS rfl rfl Try.underlying3)) (by decide) ?_; clear hS; intro aa hS
    refine dA 3 rfl (by kernel_rfl) (by kernel_rfl) (by kernel_rfl) (fun _ _ _ h => h) hS hR0 ((by first | exact Yld.quo64 hS rfl rfl (by omega) | exact Yld.quo hS rfl rfl (by omega))) (by decide) ?_; clear hS; intro aa hS
    replace hS := hS.say (t := 34) (.int .i64 (dig k 16)) rfl (by rw [dig_p hk (by omega) (by omega)]; congr 1; first | (simp; done) | (simp; omega))
    refine dA 4 rfl (by kernel_rfl) (by kernel_rfl) (by kernel_rfl) (fun _ _ _ h => h) hS hR0 (Yld.fieldAddr hS rfl 0 Try.underlying34 rfl rfl info5 (by decide)) (by decide) ?_; clear hS; intro aa hS
    refine dA 5 rfl (by kernel_rfl) (by kernel_rfl) (by kernel_rfl) (fun _ _ _ h => h) hS hR0 (Yld.load1 hS rfl Try.underlying5 rfl (by first | exact Rd.blk pkQ (by rfl) | exact Rd.rec pkQ (by intro _; rfl) (by omega) rfl | exact Rd.rec0 pkQ (by intro _; rfl) (by omega) rfl | exact Rd.flatJ pkQ (by intro _; rfl) (by omega) rfl | exact Rd.flat0 pkQ (by intro _; rfl) (by omega) rfl)) (by decide) ?_; clear hS; intro aa hS
    refine dA 6 rfl (by kernel_rfl) (by kernel_rfl) (by kernel_rfl) (fun _ _ _ h => h) hS hR0 ((by first | exact Yld.to (Yld.convInt hS rfl rfl Try.underlying3) (congrArg (Value.int .i64) (IntWalk.i64_in _ (by omega))) | exact Yld.convInt hS rfl rfl Try.underlying3)) (by decide) ?_; clear hS; intro aa hS
    refine dA 7 rfl (by kernel_rfl) (by kernel_rfl) (by kernel_rfl) (fun _ _ _ h => h) hS hR0 ((by first | exact Yld.rem64 hS rfl rfl (by omega) | exact Yld.rem hS rfl rfl (by omega))) (by decide) ?_; clear hS; intro aa hS
    replace hS := hS.say (t := 38) (.int .i64 (dig k 17)) rfl (by rw [dig_p hk (by omega) (by omega)]; congr 1; first | (simp; done) | (simp; omega))
    refine dA 8 rfl (by kernel_rfl) (by kernel_rfl) (by kernel_rfl) (fun _ _ _ h => h) hS hR0 (Yld.to (u := .pointer (some ⟨bb3, 16, none⟩)) (Yld.indexArr hS rfl rfl Try.underlying64 info3 (by omega) (by omega)) (by have h1 : (Try.t3).size = 1 := rfl; rw [h1]; congr 3 <;> omega)) (by decide) ?_; clear hS; intro aa hS
    refine dOne (i := 9) (by kernel_rfl) ?_
    refine dop rfl (BstoreJ hS hR rfl rfl info3 rfl pkQ (by omega) ?_); clear hR hR0; intro ww hR
    refine dnext (hR.sub exQ) ?_; intro hR0
    refine dA 10 rfl (by kernel_rfl) (by kernel_rfl) (by kernel_rfl) (fun _ _ _ h => h) hS hR0 (Yld.to (u := .pointer (some ⟨bb3, 17, none⟩)) (Yld.indexArr hS rfl rfl Try.underlying64 info3 (by omega) (by omega)) (by have h1 : (Try.t3).size = 1 := rfl; rw [h1]; congr 3 <;> omega)) (by decide) ?_; clear hS; intro aa hS
    refine dOne (i := 11) (by kernel_rfl) ?_
    refine dop rfl (BstoreJ hS hR rfl rfl info3 rfl pkQ (by omega) ?_); clear hR hR0; intro ww hR
    refine dnext (hR.sub exQ) ?_; intro hR0
    refine wpAnyH_done (by kernel_rfl) ?_ _; clear hR0
    refine hK358 _ _ ?_
    refine wp_seq_k ?_; intro K359 hK359
    refine wp_seq_k ?_; intro K360 hK360
    refine wp_region_lit ?_
    refine sA hS hR (Yld.assign hS rfl) (by decide) ?_; clear hS; intro aa hS
    refine wpList_nil ?_
    refine hK360 _ _ ?_
    refine wp_block ?_
    replace hR := hR.pk (r := blk bb3 ((tab 26 (upd (upd f 16 (dig k 16)) 17 (dig k 17))).flatMap e1) 64) pkQ
    refine loopI (X := Nat × (Nat → Int)) [(1, _), (2, _), (3, _)] (fun x => [(5, .int .i64 (x.1 : Int))]) (fun x => [blk bb3 ((tab 26 x.2).flatMap e1) 64]) _ (fun x => x.1 ≤ 4 ∧ (∀ j, j < 18 → x.2 j = dig k j) ∧ (∀ j, j < x.1 → x.2 (18 + j) = dig k (18 + j)) ∧ (∀ j, j < x.1 → x.2 (22 + j) = dig k (22 + j))) (fun x => 4 - x.1) (0, upd (upd f 16 (dig k 16)) 17 (dig k 17)) ⟨Nat.zero_le _, (fun j hj => by
        dsimp only; unfold upd
        by_cases e1 : j = 17
        · rw [if_pos e1, e1]
        · rw [if_neg e1]
          by_cases e2 : j = 16
          · rw [if_pos e2, e2]
          · rw [if_neg e2]
            by_cases e3 : j < 8
            · exact hI0.2.1 j e3
            · have := hI0.2.2 (j - 8) (by omega); rwa [show 8 + (j - 8) = j from by omega] at this), (fun j h => by omega), (fun j h => by omega)⟩ (hS.le (Le.cons rfl (Le.nilapp (Le.cons rfl (Le.cons rfl (Le.cons rfl (Le.nil _))))))) hR ?_
    clear hS hR; rintro ⟨i, f⟩ aa ww hI hS hR; dsimp only [List.cons_append, List.nil_append] at hI hS hR
    refine wp_seq_k ?_; intro K362 hK362
    refine wp_seq_k ?_; intro K363 hK363
    refine wp_region_lit ?_
    refine sA hS hR (Yld.move hS rfl) (by decide) ?_; clear hS; intro aa hS
    refine sA hS hR (Yld.lss hS rfl rfl) (by decide) ?_; clear hS; intro aa hS
    refine wpList_nil ?_
    refine hK363 _ _ ?_
    refine hS.splitB (t := 42) rfl ?_ ?_ <;> clear hS
    · intro hg hS
      refine condT hS rfl ?_
      refine wp_skip ?_
      refine hK362 _ _ ?_
      refine wp_seq_k ?_; intro K364 hK364
      refine wp_block ?_
      refine wp_seq_k ?_; intro K365 hK365
      refine wp_region_lit ?_
      refine sA hS hR (Yld.move hS rfl) (by decide) ?_; clear hS; intro aa hS
      refine sA hS hR ((by first | exact Yld.add64 hS rfl rfl (by omega) | exact Yld.add hS rfl rfl)) (by decide) ?_; clear hS; intro aa hS
      refine sA hS hR (Yld.fieldAddr hS rfl 3 Try.underlying34 rfl rfl info32 (by decide)) (by decide) ?_; clear hS; intro aa hS
      refine sA hS hR (Yld.load1 hS rfl Try.underlying32 rfl (by first | exact Rd.blk pkQ (by rfl) | exact Rd.rec pkQ (by intro _; rfl) (by omega) rfl | exact Rd.rec0 pkQ (by intro _; rfl) (by omega) rfl | exact Rd.flatJ pkQ (by intro _; rfl) (by omega) rfl | exact Rd.flat0 pkQ (by intro _; rfl) (by omega) rfl)) (by decide) ?_; clear hS; intro aa hS
      refine sA hS hR (Yld.move hS rfl) (by decide) ?_; clear hS; intro aa hS
      refine sA hS hR ((by first | exact Yld.mul64 hS rfl rfl (by omega) | exact Yld.mul hS rfl rfl)) (by decide) ?_; clear hS; intro aa hS
      refine sA hS hR ((by first | exact Yld.sub64 hS rfl rfl (by omega) | exact Yld.sub hS rfl rfl)) (by decide) ?_; clear hS; intro aa hS
      refine sA hS hR (Yld.to (Yld.shrL (4 * (3 - i)) ((16 ^ (3 - i) : Nat) : Int) hS rfl rfl (by omega) (by show _ ≤ 16; omega) (pow16 _)) (congrArg (Value.int .u16) (shr_dig (by omega)))) (by decide) ?_; clear hS; intro aa hS
      obtain ⟨y, hye⟩ : ∃ y : Nat, k.2.2.2.1.toNat / 16 ^ (3 - i) = y := ⟨_, rfl⟩
      have hyl : y ≤ k.2.2.2.1.toNat := hye ▸ Nat.div_le_self _ _
      have hyd : ((y % 16 : Nat) : Int) = dig k (18 + i) := by rw [dig_a hk (by omega) (by omega), ← hye, show 21 - (18 + i) = 3 - i from by omega]
      rw [hye] at hS
      refine sA hS hR ((by first | exact Yld.to (Yld.convInt hS rfl rfl Try.underlying3) (congrArg (Value.int .i64) (IntWalk.i64_in _ (by omega))) | exact Yld.convInt hS rfl rfl Try.underlying3)) (by decide) ?_; clear hS; intro aa hS
      refine sA hS hR ((by first | exact Yld.rem64 hS rfl rfl (by omega) | exact Yld.rem hS rfl rfl (by omega))) (by decide) ?_; clear hS; intro aa hS
      replace hS := hS.say (t := 54) (.int .i64 (dig k (18 + i))) rfl (by rw [← hyd, Int.natCast_emod]; rfl)
      refine sA hS hR (Yld.to (u := .pointer (some ⟨bb3, 18 + i, none⟩)) (Yld.indexArr hS rfl rfl Try.underlying64 info3 (by omega) (by omega)) (by have h1 : (Try.t3).size = 1 := rfl; rw [h1]; congr 3 <;> omega)) (by decide) ?_; clear hS; intro aa hS
      refine sB (BstoreJ hS hR rfl rfl info3 rfl pkQ (by omega) ?_); clear hR; intro ww hR
      refine wpList_nil ?_
      refine hK365 _ _ ?_
      refine wp_region_lit ?_
      refine sA hS hR (Yld.move hS rfl) (by decide) ?_; clear hS; intro aa hS
      refine sA hS hR ((by first | exact Yld.add64 hS rfl rfl (by omega) | exact Yld.add hS rfl rfl)) (by decide) ?_; clear hS; intro aa hS
      refine sA hS hR (Yld.fieldAddr hS rfl 4 Try.underlying34 rfl rfl info32 (by decide)) (by decide) ?_; clear hS; intro aa hS
      refine sA hS hR (Yld.load1 hS rfl Try.underlying32 rfl (by first | exact Rd.blk pkQ (by rfl) | exact Rd.rec pkQ (by intro _; rfl) (by omega) rfl | exact Rd.rec0 pkQ (by intro _; rfl) (by omega) rfl | exact Rd.flatJ pkQ (by intro _; rfl) (by omega) rfl | exact Rd.flat0 pkQ (by intro _; rfl) (by omega) rfl)) (by decide) ?_; clear hS; intro aa hS
      refine sA hS hR (Yld.move hS rfl) (by decide) ?_; clear hS; intro aa hS
      refine sA hS hR ((by first | exact Yld.mul64 hS rfl rfl (by omega) | exact Yld.mul hS rfl rfl)) (by decide) ?_; clear hS; intro aa hS
      refine sA hS hR ((by first | exact Yld.sub64 hS rfl rfl (by omega) | exact Yld.sub hS rfl rfl)) (by decide) ?_; clear hS; intro aa hS
      refine sA hS hR (Yld.to (Yld.shrL (4 * (3 - i)) ((16 ^ (3 - i) : Nat) : Int) hS rfl rfl (by omega) (by show _ ≤ 16; omega) (pow16 _)) (congrArg (Value.int .u16) (shr_dig (by omega)))) (by decide) ?_; clear hS; intro aa hS
      obtain ⟨y, hye⟩ : ∃ y : Nat, k.2.2.2.2.toNat / 16 ^ (3 - i) = y := ⟨_, rfl⟩
      have hyl : y ≤ k.2.2.2.2.toNat := hye ▸ Nat.div_le_self _ _
      have hyd : ((y % 16 : Nat) : Int) = dig k (22 + i) := by rw [dig_b hk (by omega) (by omega), ← hye, show 25 - (22 + i) = 3 - i from by omega]
      rw [hye] at hS
      refine sA hS hR ((by first | exact Yld.to (Yld.convInt hS rfl rfl Try.underlying3) (congrArg (Value.int .i64) (IntWalk.i64_in _ (by omega))) | exact Yld.convInt hS rfl rfl Try.underlying3)) (by decide) ?_; clear hS; intro aa hS
      refine sA hS hR ((by first | exact Yld.rem64 hS rfl rfl (by omega) | exact Yld.rem hS rfl rfl (by omega))) (by decide) ?_; clear hS; intro aa hS
      replace hS := hS.say (t := 65) (.int .i64 (dig k (22 + i))) rfl (by rw [← hyd, Int.natCast_emod]; rfl)
      refine sA hS hR (Yld.to (u := .pointer (some ⟨bb3, 22 + i, none⟩)) (Yld.indexArr hS rfl rfl Try.underlying64 info3 (by omega) (by omega)) (by have h1 : (Try.t3).size = 1 := rfl; rw [h1]; congr 3 <;> omega)) (by decide) ?_; clear hS; intro aa hS
      refine sB (BstoreJ hS hR rfl rfl info3 rfl pkQ (by omega) ?_); clear hR; intro ww hR
      refine wpList_nil ?_
      refine hK364 _ _ ?_
      refine wp_region_lit ?_
      refine sA hS hR (Yld.move hS rfl) (by decide) ?_; clear hS; intro aa hS
      refine sA hS hR ((by first | exact Yld.add64 hS rfl rfl (by omega) | exact Yld.add hS rfl rfl)) (by decide) ?_; clear hS; intro aa hS
      refine sA hS hR (Yld.assign hS rfl) (by decide) ?_; clear hS; intro aa hS
      refine wpList_nil ?_
      
      refine ⟨(i + 1, _), ?_, ?_, hS.le (Le.cons rfl (Le.nilapp (Le.cons rfl (Le.cons rfl (Le.cons rfl (Le.nil _)))))), hR.sub (Ex.take pkQ (Ex.nilapp exQ))⟩
      · dsimp only; exact ⟨by omega, fun j hj => by
          unfold upd; rw [if_neg (by omega), if_neg (by omega)]; exact hI.2.1 j hj, fun j hj => by
          unfold upd; rw [if_neg (by omega)]
          by_cases e : j = i
          · rw [if_pos (by omega), e]
          · rw [if_neg (by omega)]; exact hI.2.2.1 j (by omega), fun j hj => by
          unfold upd
          by_cases e : j = i
          · rw [if_pos (by omega), e]
          · rw [if_neg (by omega), if_neg (by omega)]; exact hI.2.2.2 j (by omega)⟩
      · dsimp only; omega
    · intro hg hS
      obtain rfl : i = 4 := by omega
      have hdl : tab 26 f = dl k := dl_tab fun j hj => by
        by_cases h1 : j < 18
        · exact hI.2.1 j h1
        · by_cases h2 : j < 22
          · have := hI.2.2.1 (j - 18) (by omega); rwa [show 18 + (j - 18) = j from by omega] at this
          · have := hI.2.2.2 (j - 22) (by omega); rwa [show 22 + (j - 22) = j from by omega] at this
      rw [hdl] at hR
      refine condF hS rfl ?_
      refine wp_exit ?_
      refine hK359 _ _ ?_
      refine wp_seq_k ?_; intro K366 hK366
      refine wp_region_lit ?_
      refine sA hS hR (Yld.loadAgg (vs := (dl k).flatMap e1) hS rfl Try.underlying64 rfl info64 (Rds.blk0 pkQ) (by rw [dlE_len]; rfl)) (by decide) ?_; clear hS; intro aa hS
      refine sB (Bstore hS hR rfl rfl (by rfl) info64 (by rfl) pkQ (by rfl) (Nat.le_of_ble_eq_true rfl) ?_); clear hR; intro ww hR
      replace hR := hR.layAll (by rw [dlE_len]; rfl)
      refine wpList_nil ?_
      refine hK366 _ _ ?_
      refine wp_ret ?_
      repeat (first | with_reducible refine thenR ?_ | with_reducible refine blockR ?_ | with_reducible refine scopeR ?_)
      refine ret1 (fn := Try.f29) (e := .ret) (.inl rfl) Try.results29 hS hR ⟨_, (.agg rfl Try.underlying64 rfl info64 (Rds.blk0 pkQ) (by rw [dlE_len]; rfl)), ?_⟩
      exact ⟨rfl, (hR.sub exQ)⟩
set_option maxRecDepth 20000 in
theorem RDigit_ok {k : Ky} {i : Int} {l : List HP} {w : World} (hR : Sep l w) (hk : WfK k) : CallR Try.prog 28 [vK k, .int .i64 i] w (fun v w' => v = .int .i64 (digI k i) ∧ Sep l w') := by
  refine enter Try.func28 rfl Try.ntmps28 (Nat.le_of_ble_eq_true rfl) ?_; intro aa hS
  refine wp_seq_k ?_; intro K367 hK367
  refine wp_region_lit ?_
  refine sB (Bbox hS hR rfl (by rfl) (by decide) ?_); clear hS hR; intro aa ww bb2 hS hR
  refine sA hS hR (Yld.assign hS rfl) (by decide) ?_; clear hS; intro aa hS
  refine wpList_nil ?_
  refine hK367 _ _ ?_
  refine wp_seq_k ?_; intro K368 hK368
  refine wp_seq_k ?_; intro K369 hK369
  refine wp_region_lit ?_
  refine sA hS hR (Yld.move hS rfl) (by decide) ?_; clear hS; intro aa hS
  refine sA hS hR (Yld.lss hS rfl rfl) (by decide) ?_; clear hS; intro aa hS
  refine sA hS hR (Yld.move hS rfl) (by decide) ?_; clear hS; intro aa hS
  refine hS.splitB (t := 7) rfl ?_ ?_ <;> clear hS
  · intro hg hS
    refine sSkip hS rfl rfl rfl (by decide) ?_; clear hS; intro aa hS
    refine sSkip hS rfl rfl rfl (by decide) ?_; clear hS; intro aa hS
    refine sA hS hR (Yld.pickT hS rfl rfl) (by decide) ?_; clear hS; intro aa hS
    refine wpList_nil ?_
    refine hK369 _ _ ?_
    refine condT hS rfl ?_
    refine wp_seq_k ?_; intro K370 hK370
    refine wp_region_lit ?_
    refine sA hS hR (Yld.assign hS rfl) (by decide) ?_; clear hS; intro aa hS
    refine wpList_nil ?_
    refine hK370 _ _ ?_
    refine wp_ret ?_
    repeat (first | with_reducible refine thenR ?_ | with_reducible refine blockR ?_ | with_reducible refine scopeR ?_)
    refine ret1 (fn := Try.f28) (e := .ret) (.inl rfl) Try.results28 hS hR ⟨_, (.tmp rfl), ?_⟩
    refine ⟨?_, (hR.sub exQ)⟩
    first | (rw [digI, if_neg (by omega)]; done) | (rw [digI, if_pos (by omega), Int.toNat_natCast])
  · intro hg hS
    refine sAg hS hR rfl rfl (Yld.move hS rfl) (by decide) ?_; clear hS; intro aa hS
    refine sAg hS hR rfl rfl (Yld.gtr hS rfl rfl) (by decide) ?_; clear hS; intro aa hS
    refine sA hS hR (Yld.pickF hS rfl rfl) (by decide) ?_; clear hS; intro aa hS
    refine wpList_nil ?_
    refine hK369 _ _ ?_
    refine hS.splitB (t := 10) rfl ?_ ?_ <;> clear hS
    · intro hg hS
      have hoff : ¬ (0 ≤ i ∧ i < 26) := by omega
      refine condT hS rfl ?_
      refine wp_seq_k ?_; intro K371 hK371
      refine wp_region_lit ?_
      refine sA hS hR (Yld.assign hS rfl) (by decide) ?_; clear hS; intro aa hS
      refine wpList_nil ?_
      refine hK371 _ _ ?_
      refine wp_ret ?_
      repeat (first | with_reducible refine thenR ?_ | with_reducible refine blockR ?_ | with_reducible refine scopeR ?_)
      refine ret1 (fn := Try.f28) (e := .ret) (.inl rfl) Try.results28 hS hR ⟨_, (.tmp rfl), ?_⟩
      refine ⟨?_, (hR.sub exQ)⟩
      first | (rw [digI, if_neg (by omega)]; done) | (rw [digI, if_pos (by omega), Int.toNat_natCast])
    · intro hg hS
      obtain ⟨m, rfl⟩ : ∃ m : Nat, i = m := ⟨i.toNat, by omega⟩
      have hon : m < 26 := by omega
      refine condF hS rfl ?_
      refine wp_skip ?_
      refine hK368 _ _ ?_
      refine wp_seq_k ?_; intro K372 hK372
      refine wp_region_lit ?_
      refine sA hS hR (Yld.loadAgg hS rfl Try.underlying34 rfl info34 (by first | exact Rds.cons (Rd.blk pkQ (by rfl)) (Rds.cons (Rd.blk pkQ (by rfl)) (Rds.cons (Rd.blk pkQ (by rfl)) (Rds.cons (Rd.blk pkQ (by rfl)) (Rds.cons (Rd.blk pkQ (by rfl)) (Rds.nil))))) | exact Rds.rec pkQ (by intro _; rfl) (by omega) | exact Rds.flat1 pkQ (by intro _; rfl) (by omega)) (by rfl)) (by decide) ?_; clear hS; intro aa hS
      refine sB (Bcall hS rfl Try.call29 (Digits_ok hR (by assumption)) (by decide) ?_); clear hS; intro aa ww vv hS hp
      clear hR
      obtain ⟨rfl, hR⟩ := hp
      refine sA hS hR (Yld.move hS rfl) (by decide) ?_; clear hS; intro aa hS
      refine sA hS hR (Yld.indexW (m := m) hS rfl rfl Try.underlying64 info3 rfl (fun w => by kernel_rfl) (by omega) (dlE_get (by omega))) (by decide) ?_; clear hS; intro aa hS
      refine sA hS hR (Yld.assign hS rfl) (by decide) ?_; clear hS; intro aa hS
      refine wpList_nil ?_
      refine hK372 _ _ ?_
      refine wp_ret ?_
      repeat (first | with_reducible refine thenR ?_ | with_reducible refine blockR ?_ | with_reducible refine scopeR ?_)
      refine ret1 (fn := Try.f28) (e := .ret) (.inl rfl) Try.results28 hS hR ⟨_, (.tmp rfl), ?_⟩
      refine ⟨?_, (hR.sub exQ)⟩
      first | (rw [digI, if_neg (by omega)]; done) | (rw [digI, if_pos (by omega), Int.toNat_natCast])
set_option maxHeartbeats 4000000 in
set_option maxRecDepth 20000 in
theorem Alike_ok {a b : Ky} {l : List HP} {w : World} (hR : Sep l w) (ha : WfK a) (hb : WfK b) : CallR Try.prog 43 [vK a, vK b] w (fun v w' => v = .int .i64 ((al a b : Nat) : Int) ∧ Sep l w') := by
  refine enter Try.func43 rfl Try.ntmps43 (Nat.le_of_ble_eq_true rfl) ?_; intro aa hS
  refine wp_seq_k ?_; intro K373 hK373
  refine wp_region_lit ?_
  refine sB (Bbox hS hR rfl (by rfl) (by decide) ?_); clear hS hR; intro aa ww bb2 hS hR
  refine sB (Bbox hS hR rfl (by rfl) (by decide) ?_); clear hS hR; intro aa ww bb3 hS hR
  refine sA hS hR (Yld.assign hS rfl) (by decide) ?_; clear hS; intro aa hS
  refine wpList_nil ?_
  refine hK373 _ _ ?_
  refine wp_seq_k ?_; intro K374 hK374
  have tail374 : ∀ (bb5 bb6 : Nat) (aa : Act) (ww : World), Has 24 aa [(5, .pointer (some ⟨bb5, 0, none⟩)), (6, .pointer (some ⟨bb6, 0, none⟩))] → Sep (blk bb5 ((dl a).flatMap e1) 64 :: blk bb6 ((dl b).flatMap e1) 64 :: l) ww → K374 aa ww := by
    clear hS hR; intro bb5 bb6 aa ww hS hR
    refine hK374 _ _ ?_
    refine wp_seq_k ?_; intro K375 hK375
    refine wp_seq_k ?_; intro K376 hK376
    refine wp_region_lit ?_
    refine sA hS hR (Yld.assign hS rfl) (by decide) ?_; clear hS; intro aa hS
    refine wpList_nil ?_
    refine hK376 _ _ ?_
    refine wp_block ?_
    refine loopI (X := Nat) [(5, _), (6, _)] (fun x => [(7, .int .i64 (x : Int))]) (fun x => []) _ (fun x => x ≤ 26 ∧ ∀ j, j < x → dig a j = dig b j) (fun x => 26 - x) 0 ⟨Nat.zero_le _, fun j h => by omega⟩ (hS.le (Le.cons rfl (Le.nilapp (Le.cons rfl (Le.cons rfl (Le.nil _)))))) hR ?_
    clear hS hR; rintro j aa ww hI hS hR; dsimp only [List.cons_append, List.nil_append] at hI hS hR
    refine wp_seq_k ?_; intro K378 hK378
    refine wp_seq_k ?_; intro K379 hK379
    refine wp_region_lit ?_
    refine sA hS hR (Yld.move hS rfl) (by decide) ?_; clear hS; intro aa hS
    refine sA hS hR (Yld.lss hS rfl rfl) (by decide) ?_; clear hS; intro aa hS
    refine wpList_nil ?_
    refine hK379 _ _ ?_
    refine hS.splitB (t := 13) rfl ?_ ?_ <;> clear hS
    · intro hg hS
      refine condT hS rfl ?_
      refine wp_skip ?_
      refine hK378 _ _ ?_
      refine wp_seq_k ?_; intro K380 hK380
      refine wp_block ?_
      refine wp_seq_k ?_; intro K381 hK381
      refine drawn (by kernel_rfl) hR Ex.refl ?_; clear hR; intro ww hR hR0
      refine dA 0 rfl (by kernel_rfl) (by kernel_rfl) (by kernel_rfl) (fun _ _ _ h => h) hS hR0 (Yld.move hS rfl) (by decide) ?_; clear hS; intro aa hS
      refine dA 1 rfl (by kernel_rfl) (by kernel_rfl) (by kernel_rfl) (fun _ _ _ h => h) hS hR0 (Yld.to (u := .pointer (some ⟨bb5, j * 1, none⟩)) (Yld.indexArr hS rfl rfl Try.underlying64 info3 (by omega) (by omega)) (by have h1 : (Try.t3).size = 1 := rfl; rw [h1]; congr 3; omega)) (by decide) ?_; clear hS; intro aa hS
      refine dA 2 rfl (by kernel_rfl) (by kernel_rfl) (by kernel_rfl) (fun _ _ _ h => h) hS hR0 (Yld.load1 hS rfl Try.underlying3 rfl (Rd.blk pkQ (dlE_get' (by omega)))) (by decide) ?_; clear hS; intro aa hS
      refine dA 3 rfl (by kernel_rfl) (by kernel_rfl) (by kernel_rfl) (fun _ _ _ h => h) hS hR0 (Yld.move hS rfl) (by decide) ?_; clear hS; intro aa hS
      refine dA 4 rfl (by kernel_rfl) (by kernel_rfl) (by kernel_rfl) (fun _ _ _ h => h) hS hR0 (Yld.to (u := .pointer (some ⟨bb6, j * 1, none⟩)) (Yld.indexArr hS rfl rfl Try.underlying64 info3 (by omega) (by omega)) (by have h1 : (Try.t3).size = 1 := rfl; rw [h1]; congr 3; omega)) (by decide) ?_; clear hS; intro aa hS
      refine dA 5 rfl (by kernel_rfl) (by kernel_rfl) (by kernel_rfl) (fun _ _ _ h => h) hS hR0 (Yld.load1 hS rfl Try.underlying3 rfl (Rd.blk pkQ (dlE_get' (by omega)))) (by decide) ?_; clear hS; intro aa hS
      refine dA 6 rfl (by kernel_rfl) (by kernel_rfl) (by kernel_rfl) (fun _ _ _ h => h) hS hR0 (Yld.neq hS rfl rfl) (by decide) ?_; clear hS; intro aa hS
      refine wpAnyH_done (by kernel_rfl) ?_ _; clear hR0
      refine hK381 _ _ ?_
      refine hS.splitB (t := 22) rfl ?_ ?_ <;> clear hS
      · intro hg hS
        have hal : al a b = j := al_uniq (by omega) hI.2 (fun _ => hg)
        refine condT hS rfl ?_
        refine wp_seq_k ?_; intro K382 hK382
        refine wp_region_lit ?_
        refine sA hS hR (Yld.move hS rfl) (by decide) ?_; clear hS; intro aa hS
        refine sA hS hR (Yld.assign hS rfl) (by decide) ?_; clear hS; intro aa hS
        refine wpList_nil ?_
        refine hK382 _ _ ?_
        refine wp_ret ?_
        repeat (first | with_reducible refine thenR ?_ | with_reducible refine blockR ?_ | with_reducible refine scopeR ?_)
        refine ret1 (fn := Try.f43) (e := .ret) (.inl rfl) Try.results43 hS hR ⟨_, (.tmp rfl), ?_⟩
        refine ⟨?_, (hR.sub exQ)⟩
        rw [hal]; try rfl
      · intro hg hS
        have heq : dig a j = dig b j := hg
        refine condF hS rfl ?_
        refine wp_skip ?_
        refine hK380 _ _ ?_
        refine wp_region_lit ?_
        refine sA hS hR (Yld.move hS rfl) (by decide) ?_; clear hS; intro aa hS
        refine sA hS hR ((by first | exact Yld.add64 hS rfl rfl (by omega) | exact Yld.add hS rfl rfl)) (by decide) ?_; clear hS; intro aa hS
        refine sA hS hR (Yld.assign hS rfl) (by decide) ?_; clear hS; intro aa hS
        refine wpList_nil ?_
        
        refine ⟨j + 1, ?_, ?_, hS.le (Le.cons rfl (Le.nilapp (Le.cons rfl (Le.cons rfl (Le.nil _))))), hR.sub (Ex.nilapp exQ)⟩
        · exact ⟨by omega, fun i hi => by
            by_cases e : i = j
            · rw [e]; exact heq
            · exact hI.2 i (by omega)⟩
        · omega
    · intro hg hS
      obtain rfl : j = 26 := by omega
      have hal : al a b = 26 := al_uniq (Nat.le_refl _) hI.2 (fun h => by omega)
      refine condF hS rfl ?_
      refine wp_exit ?_
      refine hK375 _ _ ?_
      refine wp_seq_k ?_; intro K383 hK383
      refine wp_region_lit ?_
      refine sA hS hR (Yld.assign hS rfl) (by decide) ?_; clear hS; intro aa hS
      refine wpList_nil ?_
      refine hK383 _ _ ?_
      refine wp_ret ?_
      repeat (first | with_reducible refine thenR ?_ | with_reducible refine blockR ?_ | with_reducible refine scopeR ?_)
      refine ret1 (fn := Try.f43) (e := .ret) (.inl rfl) Try.results43 hS hR ⟨_, (.tmp rfl), ?_⟩
      refine ⟨?_, (hR.sub exQ)⟩
      rw [hal]; try rfl
  refine drawn (by kernel_rfl) hR Ex.refl ?_; clear hR; intro ww hR hR0
  refine dA 0 rfl (by kernel_rfl) (by kernel_rfl) (by kernel_rfl) (fun _ _ _ h => h) hS hR0 (Yld.loadAgg hS rfl Try.underlying34 rfl info34 (by first | exact Rds.cons (Rd.blk pkQ (by rfl)) (Rds.cons (Rd.blk pkQ (by rfl)) (Rds.cons (Rd.blk pkQ (by rfl)) (Rds.cons (Rd.blk pkQ (by rfl)) (Rds.cons (Rd.blk pkQ (by rfl)) (Rds.nil))))) | exact Rds.rec pkQ (by intro _; rfl) (by omega) | exact Rds.flat1 pkQ (by intro _; rfl) (by omega)) (by rfl)) (by decide) ?_; clear hS; intro aa hS
  refine dA 2 rfl (by kernel_rfl) (by kernel_rfl) (by kernel_rfl) (fun _ _ _ h => h) hS hR0 (Yld.loadAgg hS rfl Try.underlying34 rfl info34 (by first | exact Rds.cons (Rd.blk pkQ (by rfl)) (Rds.cons (Rd.blk pkQ (by rfl)) (Rds.cons (Rd.blk pkQ (by rfl)) (Rds.cons (Rd.blk pkQ (by rfl)) (Rds.cons (Rd.blk pkQ (by rfl)) (Rds.nil))))) | exact Rds.rec pkQ (by intro _; rfl) (by omega) | exact Rds.flat1 pkQ (by intro _; rfl) (by omega)) (by rfl)) (by decide) ?_; clear hS; intro aa hS
  refine dThree (i := 1) (j := 4) (m := 5) (by kernel_rfl) ?_ ?_ ?_
  ·
    refine dop rfl (Bcall hS rfl Try.call29 (Digits_ok (k := a) hR ha) (by decide) ?_); clear hS; intro aa ww vv hS hp
    clear hR hR0
    obtain ⟨rfl, hR⟩ := hp
    refine dnext (hR.sub exQ) ?_; intro hR0
    refine dThree (i := 3) (j := 4) (m := 5) (by kernel_rfl) ?_ ?_ ?_
    ·
      refine dop rfl (Bcall hS rfl Try.call29 (Digits_ok (k := b) hR hb) (by decide) ?_); clear hS; intro aa ww vv hS hp
      clear hR hR0
      obtain ⟨rfl, hR⟩ := hp
      refine dnext (hR.sub exQ) ?_; intro hR0
      refine dTwo (i := 4) (j := 5) (by kernel_rfl) ?_ ?_
      ·
        refine dop rfl (Balloc hS hR info64 (by rfl) (by rfl) (by decide) ?_); clear hS hR hR0; intro aa ww bb5 hS hR
        refine dnext (hR.sub exQ) ?_; intro hR0
        refine dOne (i := 5) (by kernel_rfl) ?_
        refine dop rfl (Balloc hS hR info64 (by rfl) (by rfl) (by decide) ?_); clear hS hR hR0; intro aa ww bb6 hS hR
        refine dnext (hR.sub exQ) ?_; intro hR0
        refine dOne (i := 6) (by kernel_rfl) ?_
        refine dop rfl (Bstore hS hR rfl rfl (by rfl) info64 (by rfl) pkQ (by rfl) (by rw [dlE_len]; exact Nat.le_refl _) ?_); clear hR hR0; intro ww hR
        replace hR := hR.layAll (by rw [dlE_len]; rfl)
        refine dnext (hR.sub exQ) ?_; intro hR0
        refine dOne (i := 7) (by kernel_rfl) ?_
        refine dop rfl (Bstore hS hR rfl rfl (by rfl) info64 (by rfl) pkQ (by rfl) (by rw [dlE_len]; exact Nat.le_refl _) ?_); clear hR hR0; intro ww hR
        replace hR := hR.layAll (by rw [dlE_len]; rfl)
        refine dnext (hR.sub exQ) ?_; intro hR0
        refine wpAnyH_done (by kernel_rfl) ?_ _; clear hR0
        exact tail374 bb5 bb6 _ _ (hS.le (Le.cons rfl (Le.cons rfl (Le.nil _)))) (hR.sub exQ)
      ·
        refine dop rfl (Balloc hS hR info64 (by rfl) (by rfl) (by decide) ?_); clear hS hR hR0; intro aa ww bb6 hS hR
        refine dnext (hR.sub exQ) ?_; intro hR0
        refine dOne (i := 4) (by kernel_rfl) ?_
        refine dop rfl (Balloc hS hR info64 (by rfl) (by rfl) (by decide) ?_); clear hS hR hR0; intro aa ww bb5 hS hR
        refine dnext (hR.sub exQ) ?_; intro hR0
        refine dOne (i := 6) (by kernel_rfl) ?_
        refine dop rfl (Bstore hS hR rfl rfl (by rfl) info64 (by rfl) pkQ (by rfl) (by rw [dlE_len]; exact Nat.le_refl _) ?_); clear hR hR0; intro ww hR
        replace hR := hR.layAll (by rw [dlE_len]; rfl)
        refine dnext (hR.sub exQ) ?_; intro hR0
        refine dOne (i := 7) (by kernel_rfl) ?_
        refine dop rfl (Bstore hS hR rfl rfl (by rfl) info64 (by rfl) pkQ (by rfl) (by rw [dlE_len]; exact Nat.le_refl _) ?_); clear hR hR0; intro ww hR
        replace hR := hR.layAll (by rw [dlE_len]; rfl)
        refine dnext (hR.sub exQ) ?_; intro hR0
        refine wpAnyH_done (by kernel_rfl) ?_ _; clear hR0
        exact tail374 bb5 bb6 _ _ (hS.le (Le.cons rfl (Le.cons rfl (Le.nil _)))) (hR.sub exQ)
    ·
      refine dop rfl (Balloc hS hR info64 (by rfl) (by rfl) (by decide) ?_); clear hS hR hR0; intro aa ww bb5 hS hR
      refine dnext (hR.sub exQ) ?_; intro hR0
      refine dTwo (i := 3) (j := 5) (by kernel_rfl) ?_ ?_
      ·
        refine dop rfl (Bcall hS rfl Try.call29 (Digits_ok (k := b) hR hb) (by decide) ?_); clear hS; intro aa ww vv hS hp
        clear hR hR0
        obtain ⟨rfl, hR⟩ := hp
        refine dnext (hR.sub exQ) ?_; intro hR0
        refine dOne (i := 5) (by kernel_rfl) ?_
        refine dop rfl (Balloc hS hR info64 (by rfl) (by rfl) (by decide) ?_); clear hS hR hR0; intro aa ww bb6 hS hR
        refine dnext (hR.sub exQ) ?_; intro hR0
        refine dOne (i := 6) (by kernel_rfl) ?_
        refine dop rfl (Bstore hS hR rfl rfl (by rfl) info64 (by rfl) pkQ (by rfl) (by rw [dlE_len]; exact Nat.le_refl _) ?_); clear hR hR0; intro ww hR
        replace hR := hR.layAll (by rw [dlE_len]; rfl)
        refine dnext (hR.sub exQ) ?_; intro hR0
        refine dOne (i := 7) (by kernel_rfl) ?_
        refine dop rfl (Bstore hS hR rfl rfl (by rfl) info64 (by rfl) pkQ (by rfl) (by rw [dlE_len]; exact Nat.le_refl _) ?_); clear hR hR0; intro ww hR
        replace hR := hR.layAll (by rw [dlE_len]; rfl)
        refine dnext (hR.sub exQ) ?_; intro hR0
        refine wpAnyH_done (by kernel_rfl) ?_ _; clear hR0
        exact tail374 bb5 bb6 _ _ (hS.le (Le.cons rfl (Le.cons rfl (Le.nil _)))) (hR.sub exQ)
      ·
        refine dop rfl (Balloc hS hR info64 (by rfl) (by rfl) (by decide) ?_); clear hS hR hR0; intro aa ww bb6 hS hR
        refine dnext (hR.sub exQ) ?_; intro hR0
        refine dOne (i := 3) (by kernel_rfl) ?_
        refine dop rfl (Bcall hS rfl Try.call29 (Digits_ok (k := b) hR hb) (by decide) ?_); clear hS; intro aa ww vv hS hp
        clear hR hR0
        obtain ⟨rfl, hR⟩ := hp
        refine dnext (hR.sub exQ) ?_; intro hR0
        refine dOne (i := 6) (by kernel_rfl) ?_
        refine dop rfl (Bstore hS hR rfl rfl (by rfl) info64 (by rfl) pkQ (by rfl) (by rw [dlE_len]; exact Nat.le_refl _) ?_); clear hR hR0; intro ww hR
        replace hR := hR.layAll (by rw [dlE_len]; rfl)
        refine dnext (hR.sub exQ) ?_; intro hR0
        refine dOne (i := 7) (by kernel_rfl) ?_
        refine dop rfl (Bstore hS hR rfl rfl (by rfl) info64 (by rfl) pkQ (by rfl) (by rw [dlE_len]; exact Nat.le_refl _) ?_); clear hR hR0; intro ww hR
        replace hR := hR.layAll (by rw [dlE_len]; rfl)
        refine dnext (hR.sub exQ) ?_; intro hR0
        refine wpAnyH_done (by kernel_rfl) ?_ _; clear hR0
        exact tail374 bb5 bb6 _ _ (hS.le (Le.cons rfl (Le.cons rfl (Le.nil _)))) (hR.sub exQ)
    ·
      refine dop rfl (Balloc hS hR info64 (by rfl) (by rfl) (by decide) ?_); clear hS hR hR0; intro aa ww bb6 hS hR
      refine dnext (hR.sub exQ) ?_; intro hR0
      refine dTwo (i := 3) (j := 4) (by kernel_rfl) ?_ ?_
      ·
        refine dop rfl (Bcall hS rfl Try.call29 (Digits_ok (k := b) hR hb) (by decide) ?_); clear hS; intro aa ww vv hS hp
        clear hR hR0
        obtain ⟨rfl, hR⟩ := hp
        refine dnext (hR.sub exQ) ?_; intro hR0
        refine dOne (i := 4) (by kernel_rfl) ?_
        refine dop rfl (Balloc hS hR info64 (by rfl) (by rfl) (by decide) ?_); clear hS hR hR0; intro aa ww bb5 hS hR
        refine dnext (hR.sub exQ) ?_; intro hR0
        refine dOne (i := 6) (by kernel_rfl) ?_
        refine dop rfl (Bstore hS hR rfl rfl (by rfl) info64 (by rfl) pkQ (by rfl) (by rw [dlE_len]; exact Nat.le_refl _) ?_); clear hR hR0; intro ww hR
        replace hR := hR.layAll (by rw [dlE_len]; rfl)
        refine dnext (hR.sub exQ) ?_; intro hR0
        refine dOne (i := 7) (by kernel_rfl) ?_
        refine dop rfl (Bstore hS hR rfl rfl (by rfl) info64 (by rfl) pkQ (by rfl) (by rw [dlE_len]; exact Nat.le_refl _) ?_); clear hR hR0; intro ww hR
        replace hR := hR.layAll (by rw [dlE_len]; rfl)
        refine dnext (hR.sub exQ) ?_; intro hR0
        refine wpAnyH_done (by kernel_rfl) ?_ _; clear hR0
        exact tail374 bb5 bb6 _ _ (hS.le (Le.cons rfl (Le.cons rfl (Le.nil _)))) (hR.sub exQ)
      ·
        refine dop rfl (Balloc hS hR info64 (by rfl) (by rfl) (by decide) ?_); clear hS hR hR0; intro aa ww bb5 hS hR
        refine dnext (hR.sub exQ) ?_; intro hR0
        refine dOne (i := 3) (by kernel_rfl) ?_
        refine dop rfl (Bcall hS rfl Try.call29 (Digits_ok (k := b) hR hb) (by decide) ?_); clear hS; intro aa ww vv hS hp
        clear hR hR0
        obtain ⟨rfl, hR⟩ := hp
        refine dnext (hR.sub exQ) ?_; intro hR0
        refine dOne (i := 6) (by kernel_rfl) ?_
        refine dop rfl (Bstore hS hR rfl rfl (by rfl) info64 (by rfl) pkQ (by rfl) (by rw [dlE_len]; exact Nat.le_refl _) ?_); clear hR hR0; intro ww hR
        replace hR := hR.layAll (by rw [dlE_len]; rfl)
        refine dnext (hR.sub exQ) ?_; intro hR0
        refine dOne (i := 7) (by kernel_rfl) ?_
        refine dop rfl (Bstore hS hR rfl rfl (by rfl) info64 (by rfl) pkQ (by rfl) (by rw [dlE_len]; exact Nat.le_refl _) ?_); clear hR hR0; intro ww hR
        replace hR := hR.layAll (by rw [dlE_len]; rfl)
        refine dnext (hR.sub exQ) ?_; intro hR0
        refine wpAnyH_done (by kernel_rfl) ?_ _; clear hR0
        exact tail374 bb5 bb6 _ _ (hS.le (Le.cons rfl (Le.cons rfl (Le.nil _)))) (hR.sub exQ)
  ·
    refine dop rfl (Balloc hS hR info64 (by rfl) (by rfl) (by decide) ?_); clear hS hR hR0; intro aa ww bb5 hS hR
    refine dnext (hR.sub exQ) ?_; intro hR0
    refine dTwo (i := 1) (j := 5) (by kernel_rfl) ?_ ?_
    ·
      refine dop rfl (Bcall hS rfl Try.call29 (Digits_ok (k := a) hR ha) (by decide) ?_); clear hS; intro aa ww vv hS hp
      clear hR hR0
      obtain ⟨rfl, hR⟩ := hp
      refine dnext (hR.sub exQ) ?_; intro hR0
      refine dTwo (i := 3) (j := 5) (by kernel_rfl) ?_ ?_
      ·
        refine dop rfl (Bcall hS rfl Try.call29 (Digits_ok (k := b) hR hb) (by decide) ?_); clear hS; intro aa ww vv hS hp
        clear hR hR0
        obtain ⟨rfl, hR⟩ := hp
        refine dnext (hR.sub exQ) ?_; intro hR0
        refine dOne (i := 5) (by kernel_rfl) ?_
        refine dop rfl (Balloc hS hR info64 (by rfl) (by rfl) (by decide) ?_); clear hS hR hR0; intro aa ww bb6 hS hR
        refine dnext (hR.sub exQ) ?_; intro hR0
        refine dOne (i := 6) (by kernel_rfl) ?_
        refine dop rfl (Bstore hS hR rfl rfl (by rfl) info64 (by rfl) pkQ (by rfl) (by rw [dlE_len]; exact Nat.le_refl _) ?_); clear hR hR0; intro ww hR
        replace hR := hR.layAll (by rw [dlE_len]; rfl)
        refine dnext (hR.sub exQ) ?_; intro hR0
        refine dOne (i := 7) (by kernel_rfl) ?_
        refine dop rfl (Bstore hS hR rfl rfl (by rfl) info64 (by rfl) pkQ (by rfl) (by rw [dlE_len]; exact Nat.le_refl _) ?_); clear hR hR0; intro ww hR
        replace hR := hR.layAll (by rw [dlE_len]; rfl)
        refine dnext (hR.sub exQ) ?_; intro hR0
        refine wpAnyH_done (by kernel_rfl) ?_ _; clear hR0
        exact tail374 bb5 bb6 _ _ (hS.le (Le.cons rfl (Le.cons rfl (Le.nil _)))) (hR.sub exQ)
      ·
        refine dop rfl (Balloc hS hR info64 (by rfl) (by rfl) (by decide) ?_); clear hS hR hR0; intro aa ww bb6 hS hR
        refine dnext (hR.sub exQ) ?_; intro hR0
        refine dOne (i := 3) (by kernel_rfl) ?_
        refine dop rfl (Bcall hS rfl Try.call29 (Digits_ok (k := b) hR hb) (by decide) ?_); clear hS; intro aa ww vv hS hp
        clear hR hR0
        obtain ⟨rfl, hR⟩ := hp
        refine dnext (hR.sub exQ) ?_; intro hR0
        refine dOne (i := 6) (by kernel_rfl) ?_
        refine dop rfl (Bstore hS hR rfl rfl (by rfl) info64 (by rfl) pkQ (by rfl) (by rw [dlE_len]; exact Nat.le_refl _) ?_); clear hR hR0; intro ww hR
        replace hR := hR.layAll (by rw [dlE_len]; rfl)
        refine dnext (hR.sub exQ) ?_; intro hR0
        refine dOne (i := 7) (by kernel_rfl) ?_
        refine dop rfl (Bstore hS hR rfl rfl (by rfl) info64 (by rfl) pkQ (by rfl) (by rw [dlE_len]; exact Nat.le_refl _) ?_); clear hR hR0; intro ww hR
        replace hR := hR.layAll (by rw [dlE_len]; rfl)
        refine dnext (hR.sub exQ) ?_; intro hR0
        refine wpAnyH_done (by kernel_rfl) ?_ _; clear hR0
        exact tail374 bb5 bb6 _ _ (hS.le (Le.cons rfl (Le.cons rfl (Le.nil _)))) (hR.sub exQ)
    ·
      refine dop rfl (Balloc hS hR info64 (by rfl) (by rfl) (by decide) ?_); clear hS hR hR0; intro aa ww bb6 hS hR
      refine dnext (hR.sub exQ) ?_; intro hR0
      refine dOne (i := 1) (by kernel_rfl) ?_
      refine dop rfl (Bcall hS rfl Try.call29 (Digits_ok (k := a) hR ha) (by decide) ?_); clear hS; intro aa ww vv hS hp
      clear hR hR0
      obtain ⟨rfl, hR⟩ := hp
      refine dnext (hR.sub exQ) ?_; intro hR0
      refine dOne (i := 3) (by kernel_rfl) ?_
      refine dop rfl (Bcall hS rfl Try.call29 (Digits_ok (k := b) hR hb) (by decide) ?_); clear hS; intro aa ww vv hS hp
      clear hR hR0
      obtain ⟨rfl, hR⟩ := hp
      refine dnext (hR.sub exQ) ?_; intro hR0
      refine dOne (i := 6) (by kernel_rfl) ?_
      refine dop rfl (Bstore hS hR rfl rfl (by rfl) info64 (by rfl) pkQ (by rfl) (by rw [dlE_len]; exact Nat.le_refl _) ?_); clear hR hR0; intro ww hR
      replace hR := hR.layAll (by rw [dlE_len]; rfl)
      refine dnext (hR.sub exQ) ?_; intro hR0
      refine dOne (i := 7) (by kernel_rfl) ?_
      refine dop rfl (Bstore hS hR rfl rfl (by rfl) info64 (by rfl) pkQ (by rfl) (by rw [dlE_len]; exact Nat.le_refl _) ?_); clear hR hR0; intro ww hR
      replace hR := hR.layAll (by rw [dlE_len]; rfl)
      refine dnext (hR.sub exQ) ?_; intro hR0
      refine wpAnyH_done (by kernel_rfl) ?_ _; clear hR0
      exact tail374 bb5 bb6 _ _ (hS.le (Le.cons rfl (Le.cons rfl (Le.nil _)))) (hR.sub exQ)
  ·
    refine dop rfl (Balloc hS hR info64 (by rfl) (by rfl) (by decide) ?_); clear hS hR hR0; intro aa ww bb6 hS hR
    refine dnext (hR.sub exQ) ?_; intro hR0
    refine dTwo (i := 1) (j := 4) (by kernel_rfl) ?_ ?_
    ·
      refine dop rfl (Bcall hS rfl Try.call29 (Digits_ok (k := a) hR ha) (by decide) ?_); clear hS; intro aa ww vv hS hp
      clear hR hR0
      obtain ⟨rfl, hR⟩ := hp
      refine dnext (hR.sub exQ) ?_; intro hR0
      refine dTwo (i := 3) (j := 4) (by kernel_rfl) ?_ ?_
      ·
        refine dop rfl (Bcall hS rfl Try.call29 (Digits_ok (k := b) hR hb) (by decide) ?_); clear hS; intro aa ww vv hS hp
        clear hR hR0
        obtain ⟨rfl, hR⟩ := hp
        refine dnext (hR.sub exQ) ?_; intro hR0
        refine dOne (i := 4) (by kernel_rfl) ?_
        refine dop rfl (Balloc hS hR info64 (by rfl) (by rfl) (by decide) ?_); clear hS hR hR0; intro aa ww bb5 hS hR
        refine dnext (hR.sub exQ) ?_; intro hR0
        refine dOne (i := 6) (by kernel_rfl) ?_
        refine dop rfl (Bstore hS hR rfl rfl (by rfl) info64 (by rfl) pkQ (by rfl) (by rw [dlE_len]; exact Nat.le_refl _) ?_); clear hR hR0; intro ww hR
        replace hR := hR.layAll (by rw [dlE_len]; rfl)
        refine dnext (hR.sub exQ) ?_; intro hR0
        refine dOne (i := 7) (by kernel_rfl) ?_
        refine dop rfl (Bstore hS hR rfl rfl (by rfl) info64 (by rfl) pkQ (by rfl) (by rw [dlE_len]; exact Nat.le_refl _) ?_); clear hR hR0; intro ww hR
        replace hR := hR.layAll (by rw [dlE_len]; rfl)
        refine dnext (hR.sub exQ) ?_; intro hR0
        refine wpAnyH_done (by kernel_rfl) ?_ _; clear hR0
        exact tail374 bb5 bb6 _ _ (hS.le (Le.cons rfl (Le.cons rfl (Le.nil _)))) (hR.sub exQ)
      ·
        refine dop rfl (Balloc hS hR info64 (by rfl) (by rfl) (by decide) ?_); clear hS hR hR0; intro aa ww bb5 hS hR
        refine dnext (hR.sub exQ) ?_; intro hR0
        refine dOne (i := 3) (by kernel_rfl) ?_
        refine dop rfl (Bcall hS rfl Try.call29 (Digits_ok (k := b) hR hb) (by decide) ?_); clear hS; intro aa ww vv hS hp
        clear hR hR0
        obtain ⟨rfl, hR⟩ := hp
        refine dnext (hR.sub exQ) ?_; intro hR0
        refine dOne (i := 6) (by kernel_rfl) ?_
        refine dop rfl (Bstore hS hR rfl rfl (by rfl) info64 (by rfl) pkQ (by rfl) (by rw [dlE_len]; exact Nat.le_refl _) ?_); clear hR hR0; intro ww hR
        replace hR := hR.layAll (by rw [dlE_len]; rfl)
        refine dnext (hR.sub exQ) ?_; intro hR0
        refine dOne (i := 7) (by kernel_rfl) ?_
        refine dop rfl (Bstore hS hR rfl rfl (by rfl) info64 (by rfl) pkQ (by rfl) (by rw [dlE_len]; exact Nat.le_refl _) ?_); clear hR hR0; intro ww hR
        replace hR := hR.layAll (by rw [dlE_len]; rfl)
        refine dnext (hR.sub exQ) ?_; intro hR0
        refine wpAnyH_done (by kernel_rfl) ?_ _; clear hR0
        exact tail374 bb5 bb6 _ _ (hS.le (Le.cons rfl (Le.cons rfl (Le.nil _)))) (hR.sub exQ)
    ·
      refine dop rfl (Balloc hS hR info64 (by rfl) (by rfl) (by decide) ?_); clear hS hR hR0; intro aa ww bb5 hS hR
      refine dnext (hR.sub exQ) ?_; intro hR0
      refine dOne (i := 1) (by kernel_rfl) ?_
      refine dop rfl (Bcall hS rfl Try.call29 (Digits_ok (k := a) hR ha) (by decide) ?_); clear hS; intro aa ww vv hS hp
      clear hR hR0
      obtain ⟨rfl, hR⟩ := hp
      refine dnext (hR.sub exQ) ?_; intro hR0
      refine dOne (i := 3) (by kernel_rfl) ?_
      refine dop rfl (Bcall hS rfl Try.call29 (Digits_ok (k := b) hR hb) (by decide) ?_); clear hS; intro aa ww vv hS hp
      clear hR hR0
      obtain ⟨rfl, hR⟩ := hp
      refine dnext (hR.sub exQ) ?_; intro hR0
      refine dOne (i := 6) (by kernel_rfl) ?_
      refine dop rfl (Bstore hS hR rfl rfl (by rfl) info64 (by rfl) pkQ (by rfl) (by rw [dlE_len]; exact Nat.le_refl _) ?_); clear hR hR0; intro ww hR
      replace hR := hR.layAll (by rw [dlE_len]; rfl)
      refine dnext (hR.sub exQ) ?_; intro hR0
      refine dOne (i := 7) (by kernel_rfl) ?_
      refine dop rfl (Bstore hS hR rfl rfl (by rfl) info64 (by rfl) pkQ (by rfl) (by rw [dlE_len]; exact Nat.le_refl _) ?_); clear hR hR0; intro ww hR
      replace hR := hR.layAll (by rw [dlE_len]; rfl)
      refine dnext (hR.sub exQ) ?_; intro hR0
      refine wpAnyH_done (by kernel_rfl) ?_ _; clear hR0
      exact tail374 bb5 bb6 _ _ (hS.le (Le.cons rfl (Le.cons rfl (Le.nil _)))) (hR.sub exQ)
set_option maxRecDepth 20000 in
theorem before_ok {a b : Ky} {l : List HP} {w : World} (hR : Sep l w) (ha : WfK a) (hb : WfK b) : CallR Try.prog 47 [vK a, vK b] w (fun v w' => v = .bool (decide (al a b < 26 ∧ dig a (al a b) < dig b (al a b))) ∧ Sep l w') := by
  refine enter Try.func47 rfl Try.ntmps47 (Nat.le_of_ble_eq_true rfl) ?_; intro aa hS
  have hal := al_le (a := a) (b := b)
  refine wp_seq_k ?_; intro K384 hK384
  refine wp_region_lit ?_
  refine sB (Bbox hS hR rfl (by rfl) (by decide) ?_); clear hS hR; intro aa ww bb2 hS hR
  refine sB (Bbox hS hR rfl (by rfl) (by decide) ?_); clear hS hR; intro aa ww bb3 hS hR
  refine sA hS hR (Yld.assign hS rfl) (by decide) ?_; clear hS; intro aa hS
  refine wpList_nil ?_
  refine hK384 _ _ ?_
  refine wp_seq_k ?_; intro K385 hK385
  refine wp_region_lit ?_
  refine sA hS hR (Yld.loadAgg hS rfl Try.underlying34 rfl info34 (by first | exact Rds.cons (Rd.blk pkQ (by rfl)) (Rds.cons (Rd.blk pkQ (by rfl)) (Rds.cons (Rd.blk pkQ (by rfl)) (Rds.cons (Rd.blk pkQ (by rfl)) (Rds.cons (Rd.blk pkQ (by rfl)) (Rds.nil))))) | exact Rds.rec pkQ (by intro _; rfl) (by omega) | exact Rds.flat1 pkQ (by intro _; rfl) (by omega)) (by rfl)) (by decide) ?_; clear hS; intro aa hS
  refine sA hS hR (Yld.loadAgg hS rfl Try.underlying34 rfl info34 (by first | exact Rds.cons (Rd.blk pkQ (by rfl)) (Rds.cons (Rd.blk pkQ (by rfl)) (Rds.cons (Rd.blk pkQ (by rfl)) (Rds.cons (Rd.blk pkQ (by rfl)) (Rds.cons (Rd.blk pkQ (by rfl)) (Rds.nil))))) | exact Rds.rec pkQ (by intro _; rfl) (by omega) | exact Rds.flat1 pkQ (by intro _; rfl) (by omega)) (by rfl)) (by decide) ?_; clear hS; intro aa hS
  refine sB (Bcall hS rfl Try.call43 (Alike_ok hR (by assumption) (by assumption)) (by decide) ?_); clear hS; intro aa ww vv hS hp
  clear hR
  obtain ⟨rfl, hR⟩ := hp
  refine sA hS hR (Yld.assign hS rfl) (by decide) ?_; clear hS; intro aa hS
  refine wpList_nil ?_
  refine hK385 _ _ ?_
  refine wp_seq_k ?_; intro K386 hK386
  refine drawn (by kernel_rfl) hR Ex.refl ?_; clear hR; intro ww hR hR0
  refine dA 0 rfl (by kernel_rfl) (by kernel_rfl) (by kernel_rfl) (fun _ _ _ h => h) hS hR0 (Yld.move hS rfl) (by decide) ?_; clear hS; intro aa hS
  refine dA 1 rfl (by kernel_rfl) (by kernel_rfl) (by kernel_rfl) (fun _ _ _ h => h) hS hR0 (Yld.lss hS rfl rfl) (by decide) ?_; clear hS; intro aa hS
  refine dA 2 rfl (by kernel_rfl) (by kernel_rfl) (by kernel_rfl) (fun _ _ _ h => h) hS hR0 (Yld.move hS rfl) (by decide) ?_; clear hS; intro aa hS
  refine hS.splitB (t := 11) rfl ?_ ?_ <;> clear hS
  · intro hg hS
    refine dAg 3 rfl (by kernel_rfl) (by kernel_rfl) (by kernel_rfl) (fun _ _ _ h => h) hS rfl rfl hR0 (Yld.loadAgg hS rfl Try.underlying34 rfl info34 (by first | exact Rds.cons (Rd.blk pkQ (by rfl)) (Rds.cons (Rd.blk pkQ (by rfl)) (Rds.cons (Rd.blk pkQ (by rfl)) (Rds.cons (Rd.blk pkQ (by rfl)) (Rds.cons (Rd.blk pkQ (by rfl)) (Rds.nil))))) | exact Rds.rec pkQ (by intro _; rfl) (by omega) | exact Rds.flat1 pkQ (by intro _; rfl) (by omega)) (by rfl)) (by decide) ?_; clear hS; intro aa hS
    refine dAg 5 rfl (by kernel_rfl) (by kernel_rfl) (by kernel_rfl) (fun _ _ _ h => h) hS rfl rfl hR0 (Yld.move hS rfl) (by decide) ?_; clear hS; intro aa hS
    refine dAg 7 rfl (by kernel_rfl) (by kernel_rfl) (by kernel_rfl) (fun _ _ _ h => h) hS rfl rfl hR0 (Yld.loadAgg hS rfl Try.underlying34 rfl info34 (by first | exact Rds.cons (Rd.blk pkQ (by rfl)) (Rds.cons (Rd.blk pkQ (by rfl)) (Rds.cons (Rd.blk pkQ (by rfl)) (Rds.cons (Rd.blk pkQ (by rfl)) (Rds.cons (Rd.blk pkQ (by rfl)) (Rds.nil))))) | exact Rds.rec pkQ (by intro _; rfl) (by omega) | exact Rds.flat1 pkQ (by intro _; rfl) (by omega)) (by rfl)) (by decide) ?_; clear hS; intro aa hS
    refine dAg 9 rfl (by kernel_rfl) (by kernel_rfl) (by kernel_rfl) (fun _ _ _ h => h) hS rfl rfl hR0 (Yld.move hS rfl) (by decide) ?_; clear hS; intro aa hS
    refine dOne (i := 4) (by kernel_rfl) ?_
    refine dopg rfl hS rfl rfl (Bcall hS rfl Try.call29 (Digits_ok (k := a) hR ha) (by decide) ?_); clear hS; intro aa ww vv hS hp
    clear hR hR0
    obtain ⟨rfl, hR⟩ := hp
    refine dnext (hR.sub exQ) ?_; intro hR0
    refine dAg 6 rfl (by kernel_rfl) (by kernel_rfl) (by kernel_rfl) (fun _ _ _ h => h) hS rfl rfl hR0 (Yld.indexW (m := al a b) hS rfl rfl Try.underlying64 info3 rfl (fun w => by kernel_rfl) (by omega) (dlE_get (by omega))) (by decide) ?_; clear hS; intro aa hS
    refine dOne (i := 8) (by kernel_rfl) ?_
    refine dopg rfl hS rfl rfl (Bcall hS rfl Try.call29 (Digits_ok (k := b) hR hb) (by decide) ?_); clear hS; intro aa ww vv hS hp
    clear hR hR0
    obtain ⟨rfl, hR⟩ := hp
    refine dnext (hR.sub exQ) ?_; intro hR0
    refine dAg 10 rfl (by kernel_rfl) (by kernel_rfl) (by kernel_rfl) (fun _ _ _ h => h) hS rfl rfl hR0 (Yld.indexW (m := al a b) hS rfl rfl Try.underlying64 info3 rfl (fun w => by kernel_rfl) (by omega) (dlE_get (by omega))) (by decide) ?_; clear hS; intro aa hS
    refine dAg 11 rfl (by kernel_rfl) (by kernel_rfl) (by kernel_rfl) (fun _ _ _ h => h) hS rfl rfl hR0 (Yld.lss hS rfl rfl) (by decide) ?_; clear hS; intro aa hS
    refine dA 12 rfl (by kernel_rfl) (by kernel_rfl) (by kernel_rfl) (fun _ _ _ h => h) hS hR0 (Yld.pickT hS rfl rfl) (by decide) ?_; clear hS; intro aa hS
    refine dA 13 rfl (by kernel_rfl) (by kernel_rfl) (by kernel_rfl) (fun _ _ _ h => h) hS hR0 (Yld.assign hS rfl) (by decide) ?_; clear hS; intro aa hS
    refine wpAnyH_done (by kernel_rfl) ?_ _; clear hR0
    refine hK386 _ _ ?_
    refine wp_ret ?_
    repeat (first | with_reducible refine thenR ?_ | with_reducible refine blockR ?_ | with_reducible refine scopeR ?_)
    refine ret1 (fn := Try.f47) (e := .ret) (.inl rfl) Try.results47 hS hR ⟨_, (.tmp rfl), ?_⟩
    refine ⟨?_, (hR.sub exQ)⟩
    exact dec_iff ⟨fun h => ⟨by omega, h⟩, fun h => h.2⟩
  · intro hg hS
    refine dSkip 3 rfl (by kernel_rfl) (by kernel_rfl) (by kernel_rfl) (fun _ _ _ h => h) hS rfl rfl rfl hR0 (by decide) ?_; clear hS; intro aa hS
    refine dSkip 4 rfl (by kernel_rfl) (by kernel_rfl) (by kernel_rfl) (fun _ _ _ h => h) hS rfl rfl rfl hR0 (by decide) ?_; clear hS; intro aa hS
    refine dSkip 5 rfl (by kernel_rfl) (by kernel_rfl) (by kernel_rfl) (fun _ _ _ h => h) hS rfl rfl rfl hR0 (by decide) ?_; clear hS; intro aa hS
    refine dSkip 6 rfl (by kernel_rfl) (by kernel_rfl) (by kernel_rfl) (fun _ _ _ h => h) hS rfl rfl rfl hR0 (by decide) ?_; clear hS; intro aa hS
    refine dSkip 7 rfl (by kernel_rfl) (by kernel_rfl) (by kernel_rfl) (fun _ _ _ h => h) hS rfl rfl rfl hR0 (by decide) ?_; clear hS; intro aa hS
    refine dSkip 8 rfl (by kernel_rfl) (by kernel_rfl) (by kernel_rfl) (fun _ _ _ h => h) hS rfl rfl rfl hR0 (by decide) ?_; clear hS; intro aa hS
    refine dSkip 9 rfl (by kernel_rfl) (by kernel_rfl) (by kernel_rfl) (fun _ _ _ h => h) hS rfl rfl rfl hR0 (by decide) ?_; clear hS; intro aa hS
    refine dSkip 10 rfl (by kernel_rfl) (by kernel_rfl) (by kernel_rfl) (fun _ _ _ h => h) hS rfl rfl rfl hR0 (by decide) ?_; clear hS; intro aa hS
    refine dSkip 11 rfl (by kernel_rfl) (by kernel_rfl) (by kernel_rfl) (fun _ _ _ h => h) hS rfl rfl rfl hR0 (by decide) ?_; clear hS; intro aa hS
    refine dA 12 rfl (by kernel_rfl) (by kernel_rfl) (by kernel_rfl) (fun _ _ _ h => h) hS hR0 (Yld.pickF hS rfl rfl) (by decide) ?_; clear hS; intro aa hS
    refine dA 13 rfl (by kernel_rfl) (by kernel_rfl) (by kernel_rfl) (fun _ _ _ h => h) hS hR0 (Yld.assign hS rfl) (by decide) ?_; clear hS; intro aa hS
    refine wpAnyH_done (by kernel_rfl) ?_ _; clear hR0
    refine hK386 _ _ ?_
    refine wp_ret ?_
    repeat (first | with_reducible refine thenR ?_ | with_reducible refine blockR ?_ | with_reducible refine scopeR ?_)
    refine ret1 (fn := Try.f47) (e := .ret) (.inl rfl) Try.results47 hS hR ⟨_, (.tmp rfl), ?_⟩
    refine ⟨?_, (hR.sub exQ)⟩
    exact dec_no (fun h => by have := h.1; omega)
end Go.Proofs.Ytmcfmhiadlkglaa.Sx
