/-
  
-/
import Derived.Test.YtioacnbpnnabaaaBkG
import Derived.Test.YtioacnbpnnabaaaMore2
import Derived.Test.YtioacnbpnnabaaaBkMath4
namespace Go.Proofs.Ytioacnbpnnabaaa.Sx
open Go
set_option linter.unusedVariables false
set_option linter.unusedSimpArgs false

theorem info45 : Try.prog.info? 45 = some Try.t45 := by kernel_rfl

set_option maxHeartbeats 4000000 in
set_option maxRecDepth 20000 in
theorem allowed_ok {t p b st now n : Int} {q : Option Addr} {cap : Nat} {gs : List (Int × Int)} {l : List HP} {w : World} (hR : Sep (sls q gs.length cap 45 2 (gs.flatMap e2) :: l) w) (hM : Md t p b) (hE : ∀ g ∈ gs, st ≤ g.1 ∧ g.1 ≤ now ∧ 1 ≤ g.2 ∧ g.2 ≤ b) (hl : gs.length ≤ 40) (hs : 0 ≤ st ∧ st ≤ now ∧ now ≤ 1099511627776) (hn : 1 ≤ n ∧ n ≤ b) : CallR Try.prog 18 [.agg [.int .i64 t, .int .i64 p, .int .i64 b].toArray, .int .i64 st, .slice q gs.length cap, .int .i64 now, .int .i64 n] w (fun v w' => v = .bool (decide (Alw t p b st now n gs)) ∧ Sep (sls q gs.length cap 45 2 (gs.flatMap e2) :: l) w') := by
  refine enter Try.func18 rfl Try.ntmps18 (Nat.le_of_ble_eq_true rfl) ?_; intro aa hS
  have hMd : 1 ≤ t ∧ t ≤ 100 ∧ 1 ≤ p ∧ p ≤ 1000 ∧ 1 ≤ b ∧ b ≤ 100 := hM
  have hmp := hM.most
  refine wp_seq_k ?_; intro K348 hK348
  refine wp_region_lit ?_
  refine sB (Bbox hS hR rfl (by rfl) (by decide) ?_); clear hS hR; intro aa ww bb5 hS hR
  refine sA hS hR (Yld.assign hS rfl) (by decide) ?_; clear hS; intro aa hS
  refine wpList_nil ?_
  refine hK348 _ _ ?_
  refine wp_seq_k ?_; intro K349 hK349
  refine wp_region_lit ?_
  refine sA hS hR (Yld.move hS rfl) (by decide) ?_; clear hS; intro aa hS
  refine sA hS hR (Yld.move hS rfl) (by decide) ?_; clear hS; intro aa hS
  refine sB (BbuildSlice hS hR rfl (bls28_2_0_1 _ _) (by decide) ?_); clear hS hR; intro aa ww bb21 hS hR
  refine sA hS hR (Yld.assign hS rfl) (by decide) ?_; clear hS; intro aa hS
  refine wpList_nil ?_
  refine hK349 _ _ ?_
  refine wp_seq_k ?_; intro K350 hK350
  refine wp_seq_k ?_; intro K351 hK351
  refine wp_region_lit ?_
  refine sA hS hR (Yld.move hS rfl) (by decide) ?_; clear hS; intro aa hS
  refine sA hS hR (Yld.len hS rfl Try.underlying39) (by decide) ?_; clear hS; intro aa hS
  refine sA hS hR (Yld.move hS rfl) (by decide) ?_; clear hS; intro aa hS
  refine wpList_nil ?_
  refine hK351 _ _ ?_
  refine wp_block ?_
  replace hR := hR.slsB (cs := [st, now].flatMap e1) (n := 2) (sz := 1) rfl
  replace hR := hR.pk (r := sls (some ⟨bb21, 0, none⟩) 2 2 3 1 ([st, now].flatMap e1)) (by repeat (first | with_reducible exact Pk.here | with_reducible apply Pk.there))
  refine loopI (X := Nat × Option Addr × Nat) (without [11, 13, 24, 25, 26, 27, 28, 29, 30, 31, 32, 33] _) (fun x => [(11, .slice x.2.1 (2 + x.1) x.2.2), (24, .int .i64 (x.1 : Int))]) (fun x => [sls x.2.1 (2 + x.1) x.2.2 3 1 ((st :: now :: (gs.take x.1).map (·.1)).flatMap e1)]) _ (fun x => x.1 ≤ gs.length) (fun x => gs.length - x.1) (0, _, _) (by omega) (hS.le (by refine (Le.cons rfl (Le.cons rfl (Le.nilapp (Le.without _ _)))))) hR ?_
  clear hS hR; rintro ⟨k, r, c⟩ aa ww hI hS hR; dsimp only [List.cons_append, List.nil_append] at hI hS hR
  refine wp_seq_k ?_; intro K353 hK353
  refine wp_region_lit ?_
  refine sA hS hR (Yld.lss hS rfl rfl) (by decide) ?_; clear hS; intro aa hS
  refine wpList_nil ?_
  refine hK353 _ _ ?_
  refine wp_seq_k ?_; intro K354 hK354
  refine hS.splitB (t := 25) rfl ?_ ?_ <;> clear hS
  · intro hg hS
    refine condT hS rfl ?_
    refine wp_skip ?_
    refine hK354 _ _ ?_
    refine wp_seq_k ?_; intro K355 hK355
    refine wp_block ?_
    refine wp_seq_k ?_; intro K356 hK356
    refine wp_region_lit ?_
    refine sA hS hR (Yld.indexSls hS rfl rfl Try.underlying39 info45 (by repeat (first | with_reducible exact Pk.here | with_reducible apply Pk.there)) (by omega) (by omega)) (by decide) ?_; clear hS; intro aa hS
    refine sA hS hR (Yld.loadAgg hS rfl Try.underlying45 rfl info45 (Rds.at (Rds.sls (by repeat (first | with_reducible exact Pk.here | with_reducible apply Pk.there)) e2_len (show k < gs.length by omega)) (by rfl)) (by rfl)) (by decide) ?_; clear hS; intro aa hS
    refine sB (Balloc hS hR info45 (by rfl) (by rfl) (by decide) ?_); clear hS hR; intro aa ww bb13 hS hR
    refine sB (Bstore hS hR rfl rfl (by rfl) info45 (by rfl) (by repeat (first | with_reducible exact Pk.here | with_reducible apply Pk.there)) (by rfl) (Nat.le_of_ble_eq_true rfl) ?_); clear hR; intro ww hR
    refine wpList_nil ?_
    refine hK356 _ _ ?_
    refine wp_region_lit ?_
    refine sA hS hR (Yld.move hS rfl) (by decide) ?_; clear hS; intro aa hS
    refine sA hS hR (Yld.fieldAddr hS rfl 0 Try.underlying45 rfl rfl info3 (by decide)) (by decide) ?_; clear hS; intro aa hS
    refine sA hS hR (Yld.load1 hS rfl Try.underlying3 rfl (Rd.blk (by repeat (first | with_reducible exact Pk.here | with_reducible apply Pk.there)) (by rfl))) (by decide) ?_; clear hS; intro aa hS
    refine sB (BbuildSlice hS hR rfl (bls28_1_0 _) (by decide) ?_); clear hS hR; intro aa ww bb31 hS hR
    refine sB (Bappend (sz := 1) hS hR rfl rfl Try.underlying28 info3 rfl rfl (by rfl) (by repeat (first | with_reducible exact Pk.here | with_reducible apply Pk.there)) (XC.blk (by repeat (first | with_reducible exact Pk.here | with_reducible apply Pk.there)) (by rfl)) (by rfl) (by show (_ + _) * 8 ≤ _; omega) (by omega) (by decide) ?_); clear hS hR; intro aa ww r32 c32 hS hR
    replace hR := hR.slsSnoc (enc := e1) (x := gs[k].1) (ys := (st :: now :: (gs.take (k + 1)).map (·.1))) (n' := 2 + (k + 1)) rfl rfl (by rw [List.take_succ_eq_append_getElem (by omega), List.map_append]; rfl)
    refine sA hS hR (Yld.assign hS rfl) (by decide) ?_; clear hS; intro aa hS
    refine wpList_nil ?_
    refine hK355 _ _ ?_
    refine wp_region_lit ?_
    refine sA hS hR ((by first | exact Yld.add64 hS rfl rfl (by omega) | exact Yld.add hS rfl rfl)) (by decide) ?_; clear hS; intro aa hS
    refine sA hS hR (Yld.move hS rfl) (by decide) ?_; clear hS; intro aa hS
    refine wpList_nil ?_
    
    refine ⟨(k + 1, _, _), ?_, ?_, hS.le (Le.cons rfl (Le.cons rfl (Le.nilapp (by repeat (first | with_reducible exact Le.refl _ | refine Le.skip (lk_without rfl) ?_ | refine Le_inner rfl ?_))))), hR.sub (Ex.take (by repeat (first | with_reducible exact Pk.here | with_reducible apply Pk.there)) (Ex.nilapp (by repeat (first | with_reducible exact Ex.refl | with_reducible apply Ex.drop))))⟩
    · dsimp only; omega
    · dsimp only; omega
  · intro hg hS
    refine condF hS rfl ?_
    refine wp_exit ?_
    refine hK350 _ _ ?_
    refine wp_seq_k ?_; intro K357 hK357
    refine wp_seq_k ?_; intro K358 hK358
    refine wp_region_lit ?_
    refine sA hS hR (Yld.move hS rfl) (by decide) ?_; clear hS; intro aa hS
    refine sA hS hR (Yld.len hS rfl Try.underlying28) (by decide) ?_; clear hS; intro aa hS
    refine sA hS hR (Yld.move hS rfl) (by decide) ?_; clear hS; intro aa hS
    refine wpList_nil ?_
    refine hK358 _ _ ?_
    refine wp_block ?_
    obtain rfl : k = gs.length := by omega
    rw [List.take_length] at hR
    obtain ⟨ts, hts⟩ : ∃ ts, st :: now :: gs.map (·.1) = ts := ⟨_, rfl⟩
    rw [hts] at hR
    have htl : ts.length = 2 + gs.length := by rw [← hts]; simp; omega
    have hfr : ∀ fr ∈ ts, 0 ≤ fr ∧ fr ≤ now := by
      rw [← hts]; intro fr h
      simp only [List.mem_cons, List.mem_map] at h
      rcases h with rfl | rfl | ⟨g, hg, rfl⟩
      · omega
      · omega
      · have := hE g hg; omega
    refine loopI (X := Nat) (without [10, 15, 16, 18, 36, 37, 38, 39, 40, 41, 42, 43, 44, 45, 46, 47, 48, 49, 50, 51, 52, 53, 54, 55, 56, 57, 58, 59, 60, 61, 62, 63, 64, 65, 66, 67, 68, 69, 70, 71, 72, 73] _) (fun x => [(36, .int .i64 (x : Int))]) (fun x => []) _ (fun x => x ≤ ts.length ∧ ∀ fr ∈ ts.take x, okT t p b now n gs fr) (fun x => ts.length - x) 0 ⟨by omega, by simp⟩ (hS.le (by refine (Le.cons rfl (Le.nilapp (Le.without _ _))))) hR ?_
    clear hS hR; rintro j aa ww hI hS hR; dsimp only [List.cons_append, List.nil_append] at hI hS hR
    have hI2 := hI
    refine wp_seq_k ?_; intro K360 hK360
    refine wp_region_lit ?_
    refine sA hS hR (Yld.lss hS rfl rfl) (by decide) ?_; clear hS; intro aa hS
    refine wpList_nil ?_
    refine hK360 _ _ ?_
    refine wp_seq_k ?_; intro K361 hK361
    refine hS.splitB (t := 37) rfl ?_ ?_ <;> clear hS
    · intro hg hS
      refine condT hS rfl ?_
      refine wp_skip ?_
      refine hK361 _ _ ?_
      refine wp_seq_k ?_; intro K362 hK362
      refine wp_block ?_
      refine wp_seq_k ?_; intro K363 hK363
      refine wp_region_lit ?_
      refine sA hS hR (Yld.indexSls hS rfl rfl Try.underlying28 info3 (by repeat (first | with_reducible exact Pk.here | with_reducible apply Pk.there)) (by omega) (by omega)) (by decide) ?_; clear hS; intro aa hS
      refine sA hS hR (Yld.load1 hS rfl Try.underlying3 rfl (Rds.rd (Rds.at (Rds.sls (by repeat (first | with_reducible exact Pk.here | with_reducible apply Pk.there)) e1_len (show j < ts.length by omega)) (by rfl)) rfl)) (by decide) ?_; clear hS; intro aa hS
      have hf := hfr _ (List.getElem_mem (show j < ts.length by omega))
      obtain ⟨fr, hfre⟩ : ∃ y, ts[j] = y := ⟨_, rfl⟩
      rw [hfre] at hS hf
      refine sA hS hR (Yld.assign hS rfl) (by decide) ?_; clear hS; intro aa hS
      refine wpList_nil ?_
      refine hK363 _ _ ?_
      refine wp_seq_k ?_; intro K364 hK364
      refine wp_region_lit ?_
      refine sA hS hR (Yld.move hS rfl) (by decide) ?_; clear hS; intro aa hS
      refine sA hS hR (Yld.assign hS rfl) (by decide) ?_; clear hS; intro aa hS
      refine wpList_nil ?_
      refine hK364 _ _ ?_
      refine wp_seq_k ?_; intro K365 hK365
      refine wp_seq_k ?_; intro K366 hK366
      refine wp_region_lit ?_
      refine sA hS hR (Yld.move hS rfl) (by decide) ?_; clear hS; intro aa hS
      refine sA hS hR (Yld.len hS rfl Try.underlying39) (by decide) ?_; clear hS; intro aa hS
      refine sA hS hR (Yld.move hS rfl) (by decide) ?_; clear hS; intro aa hS
      refine wpList_nil ?_
      refine hK366 _ _ ?_
      refine wp_block ?_
      refine loopI (X := Nat × Int) (without [16, 18, 43, 44, 45, 46, 47, 48, 49, 50, 51, 52, 53, 54, 55] _) (fun x => [(16, .int .i64 x.2), (43, .int .i64 (x.1 : Int))]) (fun x => []) _ (fun x => x.1 ≤ gs.length ∧ x.2 = n + sumF fr (gs.take x.1)) (fun x => gs.length - x.1) (0, n) ⟨by omega, by simp [sumF]⟩ (hS.le (by refine (Le.cons rfl (Le.cons rfl (Le.nilapp (Le.without _ _)))))) hR ?_
      clear hS hR; rintro ⟨k2, s⟩ aa ww hI hS hR; dsimp only [List.cons_append, List.nil_append] at hI hS hR
      have hI4 := hI
      refine wp_seq_k ?_; intro K368 hK368
      refine wp_region_lit ?_
      refine sA hS hR (Yld.lss hS rfl rfl) (by decide) ?_; clear hS; intro aa hS
      refine wpList_nil ?_
      refine hK368 _ _ ?_
      refine wp_seq_k ?_; intro K369 hK369
      refine hS.splitB (t := 44) rfl ?_ ?_ <;> clear hS
      · intro hg hS
        refine condT hS rfl ?_
        refine wp_skip ?_
        refine hK369 _ _ ?_
        refine wp_seq_k ?_; intro K370 hK370
        refine wp_block ?_
        refine wp_seq_k ?_; intro K371 hK371
        refine wp_region_lit ?_
        refine sA hS hR (Yld.indexSls hS rfl rfl Try.underlying39 info45 (by repeat (first | with_reducible exact Pk.here | with_reducible apply Pk.there)) (by omega) (by omega)) (by decide) ?_; clear hS; intro aa hS
        refine sA hS hR (Yld.loadAgg hS rfl Try.underlying45 rfl info45 (Rds.at (Rds.sls (by repeat (first | with_reducible exact Pk.here | with_reducible apply Pk.there)) e2_len (show k2 < gs.length by omega)) (by rfl)) (by rfl)) (by decide) ?_; clear hS; intro aa hS
        have he := hE _ (List.getElem_mem (show k2 < gs.length by omega))
        have hb1 := sumF_bd (fr := fr) (gs := gs.take k2) (B := 100) (fun g hg => by have := hE g (List.mem_of_mem_take hg); omega) (by omega)
        have hb2 := List.length_take_le k2 gs
        refine sB (Balloc hS hR info45 (by rfl) (by rfl) (by decide) ?_); clear hS hR; intro aa ww bb18 hS hR
        refine sB (Bstore hS hR rfl rfl (by rfl) info45 (by rfl) (by repeat (first | with_reducible exact Pk.here | with_reducible apply Pk.there)) (by rfl) (Nat.le_of_ble_eq_true rfl) ?_); clear hR; intro ww hR
        refine wpList_nil ?_
        refine hK371 _ _ ?_
        refine wp_seq_k ?_; intro K372 hK372
        refine wp_region_lit ?_
        refine sA hS hR (Yld.fieldAddr hS rfl 0 Try.underlying45 rfl rfl info3 (by decide)) (by decide) ?_; clear hS; intro aa hS
        refine sA hS hR (Yld.load1 hS rfl Try.underlying3 rfl (Rd.blk (by repeat (first | with_reducible exact Pk.here | with_reducible apply Pk.there)) (by rfl))) (by decide) ?_; clear hS; intro aa hS
        refine sA hS hR (Yld.move hS rfl) (by decide) ?_; clear hS; intro aa hS
        refine sA hS hR (Yld.geq hS rfl rfl) (by decide) ?_; clear hS; intro aa hS
        refine wpList_nil ?_
        refine hK372 _ _ ?_
        refine hS.splitB (t := 50) rfl ?_ ?_ <;> clear hS
        · intro hg hS
          refine condT hS rfl ?_
          refine wp_region_lit ?_
          refine sA hS hR (Yld.move hS rfl) (by decide) ?_; clear hS; intro aa hS
          refine sA hS hR (Yld.fieldAddr hS rfl 1 Try.underlying45 rfl rfl info3 (by decide)) (by decide) ?_; clear hS; intro aa hS
          refine sA hS hR (Yld.load1 hS rfl Try.underlying3 rfl (Rd.blk (by repeat (first | with_reducible exact Pk.here | with_reducible apply Pk.there)) (by rfl))) (by decide) ?_; clear hS; intro aa hS
          refine sA hS hR ((by first | exact Yld.add64 hS rfl rfl (by omega) | exact Yld.add hS rfl rfl)) (by decide) ?_; clear hS; intro aa hS
          refine sA hS hR (Yld.assign hS rfl) (by decide) ?_; clear hS; intro aa hS
          refine wpList_nil ?_
          refine hK370 _ _ ?_
          refine wp_region_lit ?_
          refine sA hS hR ((by first | exact Yld.add64 hS rfl rfl (by omega) | exact Yld.add hS rfl rfl)) (by decide) ?_; clear hS; intro aa hS
          refine sA hS hR (Yld.move hS rfl) (by decide) ?_; clear hS; intro aa hS
          refine wpList_nil ?_
          
          refine ⟨(k2 + 1, _), ?_, ?_, hS.le (Le.cons rfl (Le.cons rfl (Le.nilapp (by repeat (first | with_reducible exact Le.refl _ | refine Le.skip (lk_without rfl) ?_ | refine Le_inner rfl ?_))))), hR.sub (Ex.nilapp (by repeat (first | with_reducible exact Ex.refl | with_reducible apply Ex.drop)))⟩
          · dsimp only; refine ⟨by omega, ?_⟩; rw [sumF_take (show k2 < gs.length by omega)]; split <;> omega
          · dsimp only; omega
        · intro hg hS
          refine condF hS rfl ?_
          refine wp_skip ?_
          refine hK370 _ _ ?_
          refine wp_region_lit ?_
          refine sA hS hR ((by first | exact Yld.add64 hS rfl rfl (by omega) | exact Yld.add hS rfl rfl)) (by decide) ?_; clear hS; intro aa hS
          refine sA hS hR (Yld.move hS rfl) (by decide) ?_; clear hS; intro aa hS
          refine wpList_nil ?_
          
          refine ⟨(k2 + 1, _), ?_, ?_, hS.le (Le.cons rfl (Le.cons rfl (Le.nilapp (by repeat (first | with_reducible exact Le.refl _ | refine Le.skip (lk_without rfl) ?_ | refine Le_inner rfl ?_))))), hR.sub (Ex.nilapp (by repeat (first | with_reducible exact Ex.refl | with_reducible apply Ex.drop)))⟩
          · dsimp only; refine ⟨by omega, ?_⟩; rw [sumF_take (show k2 < gs.length by omega)]; split <;> omega
          · dsimp only; omega
      · intro hg hS
        refine condF hS rfl ?_
        refine wp_exit ?_
        refine hK365 _ _ ?_
        refine wp_seq_k ?_; intro K373 hK373
        refine wp_region_lit ?_
        refine sA hS hR (Yld.move hS rfl) (by decide) ?_; clear hS; intro aa hS
        obtain rfl : k2 = gs.length := by omega
        rw [List.take_length] at hI4
        have hb1 := sumF_bd (fr := fr) (gs := gs) (B := 100) (fun g hg => by have := hE g hg; omega) (by omega)
        have hm1 := mulbd (a := s) (b := p) (A := 5000) (B := 1000) (by omega) (by omega) (by omega) (by omega)
        have hm2 := mulbd (a := now - fr) (b := t) (A := 1099511627776) (B := 100) (by omega) (by omega) (by omega) (by omega)
        refine sA hS hR (Yld.fieldAddr hS rfl 1 Try.underlying23 rfl rfl info3 (by decide)) (by decide) ?_; clear hS; intro aa hS
        refine sA hS hR (Yld.load1 hS rfl Try.underlying3 rfl (Rd.blk (by repeat (first | with_reducible exact Pk.here | with_reducible apply Pk.there)) (by rfl))) (by decide) ?_; clear hS; intro aa hS
        refine sA hS hR ((by first | exact Yld.mul64 hS rfl rfl (by omega) | exact Yld.mul hS rfl rfl)) (by decide) ?_; clear hS; intro aa hS
        refine sA hS hR (Yld.fieldAddr hS rfl 2 Try.underlying23 rfl rfl info3 (by decide)) (by decide) ?_; clear hS; intro aa hS
        refine sA hS hR (Yld.load1 hS rfl Try.underlying3 rfl (Rd.blk (by repeat (first | with_reducible exact Pk.here | with_reducible apply Pk.there)) (by rfl))) (by decide) ?_; clear hS; intro aa hS
        refine sA hS hR (Yld.fieldAddr hS rfl 1 Try.underlying23 rfl rfl info3 (by decide)) (by decide) ?_; clear hS; intro aa hS
        refine sA hS hR (Yld.load1 hS rfl Try.underlying3 rfl (Rd.blk (by repeat (first | with_reducible exact Pk.here | with_reducible apply Pk.there)) (by rfl))) (by decide) ?_; clear hS; intro aa hS
        refine sA hS hR ((by first | exact Yld.mul64 hS rfl rfl (by omega) | exact Yld.mul hS rfl rfl)) (by decide) ?_; clear hS; intro aa hS
        refine sA hS hR (Yld.move hS rfl) (by decide) ?_; clear hS; intro aa hS
        refine sA hS hR (Yld.move hS rfl) (by decide) ?_; clear hS; intro aa hS
        refine sA hS hR ((by first | exact Yld.sub64 hS rfl rfl (by omega) | exact Yld.sub hS rfl rfl)) (by decide) ?_; clear hS; intro aa hS
        refine sA hS hR (Yld.fieldAddr hS rfl 0 Try.underlying23 rfl rfl info3 (by decide)) (by decide) ?_; clear hS; intro aa hS
        refine sA hS hR (Yld.load1 hS rfl Try.underlying3 rfl (Rd.blk (by repeat (first | with_reducible exact Pk.here | with_reducible apply Pk.there)) (by rfl))) (by decide) ?_; clear hS; intro aa hS
        refine sA hS hR ((by first | exact Yld.mul64 hS rfl rfl (by omega) | exact Yld.mul hS rfl rfl)) (by decide) ?_; clear hS; intro aa hS
        refine sA hS hR ((by first | exact Yld.add64 hS rfl rfl (by omega) | exact Yld.add hS rfl rfl)) (by decide) ?_; clear hS; intro aa hS
        refine sA hS hR (Yld.gtr hS rfl rfl) (by decide) ?_; clear hS; intro aa hS
        refine wpList_nil ?_
        refine hK373 _ _ ?_
        refine hS.splitB (t := 72) rfl ?_ ?_ <;> clear hS
        · intro hg hS
          refine condT hS rfl ?_
          refine wp_seq_k ?_; intro K374 hK374
          refine wp_region_lit ?_
          refine sA hS hR (Yld.assign hS rfl) (by decide) ?_; clear hS; intro aa hS
          refine wpList_nil ?_
          refine hK374 _ _ ?_
          refine wp_ret ?_
          repeat (first | with_reducible refine thenR ?_ | with_reducible refine blockR ?_ | with_reducible refine scopeR ?_)
          refine ret1 (fn := Try.f18) (e := .ret) (.inl rfl) Try.results18 hS hR ⟨_, (.tmp rfl), ?_⟩
          refine ⟨?_, (hR.sub (by repeat (first | with_reducible exact Ex.refl | with_reducible apply Ex.drop)))⟩
          first | exact dec_no (fun h => by have h1 : (_ : Int) ≤ _ := h fr (by rw [hts, ← hfre]; exact List.getElem_mem _); rw [← hI4.2] at h1; omega) | exact dec_yes (by unfold Alw; rw [hts]; intro fr h; exact hI2.2 fr (by rw [List.take_of_length_le (by omega)]; exact h))
        · intro hg hS
          refine condF hS rfl ?_
          refine wp_skip ?_
          refine hK362 _ _ ?_
          refine wp_region_lit ?_
          refine sA hS hR ((by first | exact Yld.add64 hS rfl rfl (by omega) | exact Yld.add hS rfl rfl)) (by decide) ?_; clear hS; intro aa hS
          refine sA hS hR (Yld.move hS rfl) (by decide) ?_; clear hS; intro aa hS
          refine wpList_nil ?_
          
          refine ⟨j + 1, ?_, ?_, hS.le (Le.cons rfl (Le.nilapp (by repeat (first | with_reducible exact Le.refl _ | refine Le.skip (lk_without rfl) ?_ | refine Le_inner rfl ?_)))), hR.sub (Ex.nilapp (by repeat (first | with_reducible exact Ex.refl | with_reducible apply Ex.drop)))⟩
          · exact ⟨by omega, take_snoc (by omega) hI2.2 (by rw [hfre]; show (_ : Int) ≤ _; rw [← hI4.2]; omega)⟩
          · omega
    · intro hg hS
      refine condF hS rfl ?_
      refine wp_exit ?_
      refine hK357 _ _ ?_
      refine wp_seq_k ?_; intro K375 hK375
      refine wp_region_lit ?_
      refine sA hS hR (Yld.assign hS rfl) (by decide) ?_; clear hS; intro aa hS
      refine wpList_nil ?_
      refine hK375 _ _ ?_
      refine wp_ret ?_
      repeat (first | with_reducible refine thenR ?_ | with_reducible refine blockR ?_ | with_reducible refine scopeR ?_)
      refine ret1 (fn := Try.f18) (e := .ret) (.inl rfl) Try.results18 hS hR ⟨_, (.tmp rfl), ?_⟩
      refine ⟨?_, (hR.sub (by repeat (first | with_reducible exact Ex.refl | with_reducible apply Ex.drop)))⟩
      first | exact dec_no (fun h => by have h1 : (_ : Int) ≤ _ := h fr (by rw [hts, ← hfre]; exact List.getElem_mem _); rw [← hI4.2] at h1; omega) | exact dec_yes (by unfold Alw; rw [hts]; intro fr h; exact hI2.2 fr (by rw [List.take_of_length_le (by omega)]; exact h))
end Go.Proofs.Ytioacnbpnnabaaa.Sx
