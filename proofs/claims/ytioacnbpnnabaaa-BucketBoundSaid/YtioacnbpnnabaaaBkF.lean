/-
  
-/
import Derived.Test.YtioacnbpnnabaaaBkE
import Derived.Test.YtioacnbpnnabaaaMore
namespace Go.Proofs.Ytioacnbpnnabaaa.Sx
open Go
set_option linter.unusedVariables false
set_option linter.unusedSimpArgs false

theorem bls28_15_0_1_2_3_4_5_6_7_8_9_10_11_12_13_14 (x0 : Int) (x1 : Int) (x2 : Int) (x3 : Int) (x4 : Int) (x5 : Int) (x6 : Int) (x7 : Int) (x8 : Int) (x9 : Int) (x10 : Int) (x11 : Int) (x12 : Int) (x13 : Int) (x14 : Int) (w : World) : (Instr.buildSlice 28 15 [(0, .int .i64 x0), (1, .int .i64 x1), (2, .int .i64 x2), (3, .int .i64 x3), (4, .int .i64 x4), (5, .int .i64 x5), (6, .int .i64 x6), (7, .int .i64 x7), (8, .int .i64 x8), (9, .int .i64 x9), (10, .int .i64 x10), (11, .int .i64 x11), (12, .int .i64 x12), (13, .int .i64 x13), (14, .int .i64 x14)].toArray).run Try.prog w = .ok (.slice (some ⟨w.heap.size, 0, none⟩) 15 15) (w.alloc (.cells ([.int .i64 x0, .int .i64 x1, .int .i64 x2, .int .i64 x3, .int .i64 x4, .int .i64 x5, .int .i64 x6, .int .i64 x7, .int .i64 x8, .int .i64 x9, .int .i64 x10, .int .i64 x11, .int .i64 x12, .int .i64 x13, .int .i64 x14] : List Value).toArray 3)) := by kernel_rfl

set_option maxRecDepth 20000 in
theorem rate_ok {t p b : Int} {l : List HP} {w : World} (hR : Sep l w) : CallR Try.prog 13 [.int .i64 t, .int .i64 p, .int .i64 b] w (fun v w' => v = .agg [.int .i64 t, .int .i64 p, .int .i64 b].toArray ∧ Sep l w') := by
  refine enter Try.func13 rfl Try.ntmps13 (Nat.le_of_ble_eq_true rfl) ?_; intro aa hS
  refine wp_seq_k ?_; intro K266 hK266
  refine wp_region_lit ?_
  refine sB (Balloc hS hR info23 (by rfl) (by rfl) (by decide) ?_); clear hS hR; intro aa ww bb6 hS hR
  refine wpList_nil ?_
  refine hK266 _ _ ?_
  refine wp_seq_k ?_; intro K267 hK267
  refine wp_region_lit ?_
  refine sA hS hR (Yld.move hS rfl) (by decide) ?_; clear hS; intro aa hS
  refine sA hS hR (Yld.move hS rfl) (by decide) ?_; clear hS; intro aa hS
  refine sA hS hR (Yld.move hS rfl) (by decide) ?_; clear hS; intro aa hS
  refine sA hS hR (Yld.build hS rfl (bld23_0_1_2 _ _ _)) (by decide) ?_; clear hS; intro aa hS
  refine sB (Bstore hS hR rfl rfl (by rfl) info23 (by rfl) (by repeat (first | with_reducible exact Pk.here | with_reducible apply Pk.there)) (by rfl) (Nat.le_of_ble_eq_true rfl) ?_); clear hR; intro ww hR
  refine wpList_nil ?_
  refine hK267 _ _ ?_
  refine wp_ret ?_
  repeat (first | with_reducible refine thenR ?_ | with_reducible refine blockR ?_ | with_reducible refine scopeR ?_)
  refine ret1 (fn := Try.f13) (e := .ret) (.inl rfl) Try.results13 hS hR ⟨_, (.agg rfl Try.underlying23 rfl info23 (Rds.cons (Rd.blk (by repeat (first | with_reducible exact Pk.here | with_reducible apply Pk.there)) (by rfl)) (Rds.cons (Rd.blk (by repeat (first | with_reducible exact Pk.here | with_reducible apply Pk.there)) (by rfl)) (Rds.cons (Rd.blk (by repeat (first | with_reducible exact Pk.here | with_reducible apply Pk.there)) (by rfl)) (Rds.nil)))) (by rfl)), ?_⟩
  exact ⟨rfl, (hR.sub (by repeat (first | with_reducible exact Ex.refl | with_reducible apply Ex.drop)))⟩
set_option maxHeartbeats 16000000 in
set_option maxRecDepth 20000 in
theorem BucketSmall_ok {l : List HP} {w : World} (hR : Sep l w) : CallR Try.prog 4 ([] : List Value) w (fun v w' => v = .bool true ∧ Sep l w') := by
  refine enter Try.func4 rfl Try.ntmps4 (Nat.le_of_ble_eq_true rfl) ?_; intro aa hS
  refine wp_seq_k ?_; intro K268 hK268
  refine wp_region_lit ?_
  refine sA hS hR (Yld.assign hS rfl) (by decide) ?_; clear hS; intro aa hS
  refine wpList_nil ?_
  refine hK268 _ _ ?_
  refine wp_seq_k ?_; intro K269 hK269
  refine wp_seq_k ?_; intro K270 hK270
  refine wp_region_lit ?_
  refine sA hS hR (Yld.move hS rfl) (by decide) ?_; clear hS; intro aa hS
  refine wpList_nil ?_
  refine hK270 _ _ ?_
  refine wp_block ?_
  refine loopI (X := Int) (without [0, 1, 2, 3, 4, 5, 15, 16, 17, 18, 19, 20, 21, 22, 23, 24, 25, 26, 27, 28, 29, 30, 31, 32, 33, 34, 35, 36, 37, 38, 39, 40, 41, 42, 43, 44, 45, 46, 47, 48, 49, 50, 51, 52, 53, 54, 55, 56, 57] _) (fun x => [(15, .int .i64 x)]) (fun x => []) _ (fun x => 0 ≤ x ∧ x ≤ 48) (fun x => (48 - x).toNat) (0) ⟨by omega, by omega⟩ (hS.le (by refine (Le.cons rfl (Le.nilapp (Le.without _ _))))) hR ?_
  clear hS hR; rintro i aa ww hI hS hR; dsimp only [List.cons_append, List.nil_append] at hI hS hR
  refine wp_seq_k ?_; intro K272 hK272
  refine wp_region_lit ?_
  refine sA hS hR (Yld.lss hS rfl rfl) (by decide) ?_; clear hS; intro aa hS
  refine wpList_nil ?_
  refine hK272 _ _ ?_
  refine wp_seq_k ?_; intro K273 hK273
  refine hS.splitB (t := 16) rfl ?_ ?_ <;> clear hS
  · intro hg hS
    refine condT hS rfl ?_
    refine wp_skip ?_
    refine hK273 _ _ ?_
    refine wp_seq_k ?_; intro K274 hK274
    refine wp_block ?_
    refine wp_seq_k ?_; intro K275 hK275
    refine wp_region_lit ?_
    refine sA hS hR (Yld.move hS rfl) (by decide) ?_; clear hS; intro aa hS
    refine sA hS hR (Yld.assign hS rfl) (by decide) ?_; clear hS; intro aa hS
    refine wpList_nil ?_
    refine hK275 _ _ ?_
    refine wp_seq_k ?_; intro K276 hK276
    refine wp_region_lit ?_
    refine sA hS hR (Yld.move hS rfl) (by decide) ?_; clear hS; intro aa hS
    refine sA hS hR ((by first | exact Yld.rem64 hS rfl rfl (by omega) | exact Yld.rem hS rfl rfl (by omega))) (by decide) ?_; clear hS; intro aa hS
    refine sA hS hR ((by first | exact Yld.add64 hS rfl rfl (by omega) | exact Yld.add hS rfl rfl)) (by decide) ?_; clear hS; intro aa hS
    obtain ⟨t, ht, bt⟩ : ∃ y, 1 + i % 4 = y ∧ 1 ≤ y ∧ y ≤ 4 := ⟨_, rfl, by omega, by omega⟩
    replace hS := hS.say (t := 20) (.int .i64 t) rfl (by rw [ht])
    refine sA hS hR (Yld.move hS rfl) (by decide) ?_; clear hS; intro aa hS
    refine sA hS hR ((by first | exact Yld.quo64 hS rfl rfl (by omega) | exact Yld.quo hS rfl rfl (by omega))) (by decide) ?_; clear hS; intro aa hS
    refine sA hS hR ((by first | exact Yld.rem64 hS rfl rfl (by omega) | exact Yld.rem hS rfl rfl (by omega))) (by decide) ?_; clear hS; intro aa hS
    refine sA hS hR ((by first | exact Yld.add64 hS rfl rfl (by omega) | exact Yld.add hS rfl rfl)) (by decide) ?_; clear hS; intro aa hS
    obtain ⟨p, hp, bp⟩ : ∃ y, 1 + i / 4 % 4 = y ∧ 1 ≤ y ∧ y ≤ 4 := ⟨_, rfl, by omega, by omega⟩
    replace hS := hS.say (t := 24) (.int .i64 p) rfl (by rw [hp])
    refine sA hS hR (Yld.move hS rfl) (by decide) ?_; clear hS; intro aa hS
    refine sA hS hR ((by first | exact Yld.quo64 hS rfl rfl (by omega) | exact Yld.quo hS rfl rfl (by omega))) (by decide) ?_; clear hS; intro aa hS
    refine sA hS hR ((by first | exact Yld.add64 hS rfl rfl (by omega) | exact Yld.add hS rfl rfl)) (by decide) ?_; clear hS; intro aa hS
    obtain ⟨b, hb, bb⟩ : ∃ y, 1 + i / 16 = y ∧ 1 ≤ y ∧ y ≤ 3 := ⟨_, rfl, by omega, by omega⟩
    replace hS := hS.say (t := 27) (.int .i64 b) rfl (by rw [hb])
    have hm := mulbd (a := b) (b := p) (A := 3) (B := 4) (by omega) (by omega) (by omega) (by omega)
    refine sA hS hR (Yld.build hS rfl (bld23_0_1_2 _ _ _)) (by decide) ?_; clear hS; intro aa hS
    refine sB (Balloc hS hR info23 (by rfl) (by rfl) (by decide) ?_); clear hS hR; intro aa ww bb2 hS hR
    refine sB (Bstore hS hR rfl rfl (by rfl) info23 (by rfl) (by repeat (first | with_reducible exact Pk.here | with_reducible apply Pk.there)) (by rfl) (Nat.le_of_ble_eq_true rfl) ?_); clear hR; intro ww hR
    refine wpList_nil ?_
    refine hK276 _ _ ?_
    refine wp_seq_k ?_; intro K277 hK277
    refine wp_region_lit ?_
    refine sA hS hR (Yld.assign hS rfl) (by decide) ?_; clear hS; intro aa hS
    refine wpList_nil ?_
    refine hK277 _ _ ?_
    refine wp_block ?_
    refine loopI (X := Int) (without [0, 3, 4, 5, 29, 30, 31, 32, 33, 34, 35, 36, 37, 38, 39, 40, 41, 42, 43, 44, 45, 46, 47, 48, 49, 50, 51, 52, 53, 54, 55, 56] _) (fun x => [(3, .int .i64 x)]) (fun x => []) _ (fun x => -1 ≤ x ∧ x ≤ b * p + 2) (fun x => (b * p + 2 - x).toNat) (-1) ⟨by omega, by omega⟩ (hS.le (by refine (Le.cons rfl (Le.nilapp (Le.without _ _))))) hR ?_
    clear hS hR; rintro lv aa ww hI hS hR; dsimp only [List.cons_append, List.nil_append] at hI hS hR
    refine wp_seq_k ?_; intro K279 hK279
    refine wp_seq_k ?_; intro K280 hK280
    refine wp_region_lit ?_
    refine sA hS hR (Yld.move hS rfl) (by decide) ?_; clear hS; intro aa hS
    refine sA hS hR (Yld.fieldAddr hS rfl 2 Try.underlying23 rfl rfl info3 (by decide)) (by decide) ?_; clear hS; intro aa hS
    refine sA hS hR (Yld.load1 hS rfl Try.underlying3 rfl (Rd.blk (by repeat (first | with_reducible exact Pk.here | with_reducible apply Pk.there)) (by rfl))) (by decide) ?_; clear hS; intro aa hS
    refine sA hS hR (Yld.fieldAddr hS rfl 1 Try.underlying23 rfl rfl info3 (by decide)) (by decide) ?_; clear hS; intro aa hS
    refine sA hS hR (Yld.load1 hS rfl Try.underlying3 rfl (Rd.blk (by repeat (first | with_reducible exact Pk.here | with_reducible apply Pk.there)) (by rfl))) (by decide) ?_; clear hS; intro aa hS
    refine sA hS hR ((by first | exact Yld.mul64 hS rfl rfl (by omega) | exact Yld.mul hS rfl rfl)) (by decide) ?_; clear hS; intro aa hS
    refine sA hS hR ((by first | exact Yld.add64 hS rfl rfl (by omega) | exact Yld.add hS rfl rfl)) (by decide) ?_; clear hS; intro aa hS
    refine sA hS hR (Yld.leq hS rfl rfl) (by decide) ?_; clear hS; intro aa hS
    refine wpList_nil ?_
    refine hK280 _ _ ?_
    refine hS.splitB (t := 36) rfl ?_ ?_ <;> clear hS
    · intro hg hS
      refine condT hS rfl ?_
      refine wp_skip ?_
      refine hK279 _ _ ?_
      refine wp_seq_k ?_; intro K281 hK281
      refine wp_block ?_
      refine wp_seq_k ?_; intro K282 hK282
      refine wp_region_lit ?_
      refine sA hS hR (Yld.assign hS rfl) (by decide) ?_; clear hS; intro aa hS
      refine wpList_nil ?_
      refine hK282 _ _ ?_
      refine wp_block ?_
      refine loopI (X := Int) (without [0, 4, 5, 39, 40, 41, 42, 43, 44, 45, 46, 47, 48, 49, 50, 51, 52, 53, 54, 55, 56] _) (fun x => [(4, .int .i64 x)]) (fun x => []) _ (fun x => 4 ≤ x ∧ x ≤ 15) (fun x => (15 - x).toNat) (4) ⟨by omega, by omega⟩ (hS.le (by refine (Le.cons rfl (Le.nilapp (Le.without _ _))))) hR ?_
      clear hS hR; rintro nw aa ww hI hS hR; dsimp only [List.cons_append, List.nil_append] at hI hS hR
      refine wp_seq_k ?_; intro K284 hK284
      refine wp_seq_k ?_; intro K285 hK285
      refine wp_region_lit ?_
      refine sA hS hR (Yld.move hS rfl) (by decide) ?_; clear hS; intro aa hS
      refine sA hS hR (Yld.leq hS rfl rfl) (by decide) ?_; clear hS; intro aa hS
      refine wpList_nil ?_
      refine hK285 _ _ ?_
      refine hS.splitB (t := 40) rfl ?_ ?_ <;> clear hS
      · intro hg hS
        refine condT hS rfl ?_
        refine wp_skip ?_
        refine hK284 _ _ ?_
        refine wp_seq_k ?_; intro K286 hK286
        refine wp_block ?_
        refine wp_seq_k ?_; intro K287 hK287
        refine wp_region_lit ?_
        refine sA hS hR (Yld.assign hS rfl) (by decide) ?_; clear hS; intro aa hS
        refine wpList_nil ?_
        refine hK287 _ _ ?_
        refine wp_block ?_
        refine loopI (X := Int) (without [0, 5, 43, 44, 45, 46, 47, 48, 49, 50, 51, 52, 53, 54, 55, 56] _) (fun x => [(5, .int .i64 x)]) (fun x => []) _ (fun x => -1 ≤ x ∧ x ≤ b + 2) (fun x => (b + 2 - x).toNat) (-1) ⟨by omega, by omega⟩ (hS.le (by refine (Le.cons rfl (Le.nilapp (Le.without _ _))))) hR ?_
        clear hS hR; rintro n aa ww hI hS hR; dsimp only [List.cons_append, List.nil_append] at hI hS hR
        refine wp_seq_k ?_; intro K289 hK289
        refine wp_seq_k ?_; intro K290 hK290
        refine wp_region_lit ?_
        refine sA hS hR (Yld.move hS rfl) (by decide) ?_; clear hS; intro aa hS
        refine sA hS hR (Yld.fieldAddr hS rfl 2 Try.underlying23 rfl rfl info3 (by decide)) (by decide) ?_; clear hS; intro aa hS
        refine sA hS hR (Yld.load1 hS rfl Try.underlying3 rfl (Rd.blk (by repeat (first | with_reducible exact Pk.here | with_reducible apply Pk.there)) (by rfl))) (by decide) ?_; clear hS; intro aa hS
        refine sA hS hR ((by first | exact Yld.add64 hS rfl rfl (by omega) | exact Yld.add hS rfl rfl)) (by decide) ?_; clear hS; intro aa hS
        refine sA hS hR (Yld.leq hS rfl rfl) (by decide) ?_; clear hS; intro aa hS
        refine wpList_nil ?_
        refine hK290 _ _ ?_
        refine hS.splitB (t := 47) rfl ?_ ?_ <;> clear hS
        · intro hg hS
          refine condT hS rfl ?_
          refine wp_skip ?_
          refine hK289 _ _ ?_
          refine wp_seq_k ?_; intro K291 hK291
          refine wp_block ?_
          refine wp_seq_k ?_; intro K292 hK292
          refine wp_region_lit ?_
          refine sA hS hR (Yld.loadAgg hS rfl Try.underlying23 rfl info23 (Rds.cons (Rd.blk (by repeat (first | with_reducible exact Pk.here | with_reducible apply Pk.there)) (by rfl)) (Rds.cons (Rd.blk (by repeat (first | with_reducible exact Pk.here | with_reducible apply Pk.there)) (by rfl)) (Rds.cons (Rd.blk (by repeat (first | with_reducible exact Pk.here | with_reducible apply Pk.there)) (by rfl)) (Rds.nil)))) (by rfl)) (by decide) ?_; clear hS; intro aa hS
          refine sA hS hR (Yld.move hS rfl) (by decide) ?_; clear hS; intro aa hS
          refine sA hS hR (Yld.build hS rfl (bld25_0_1 _ _)) (by decide) ?_; clear hS; intro aa hS
          refine sA hS hR (Yld.move hS rfl) (by decide) ?_; clear hS; intro aa hS
          refine sA hS hR (Yld.move hS rfl) (by decide) ?_; clear hS; intro aa hS
          refine sB (Bcall hS rfl Try.call11 (tells_ok hR) (by decide) ?_); clear hS; intro aa ww vv hS hp
          clear hR
          obtain ⟨rfl, hR⟩ := hp
          refine sA hS hR (Yld.not hS rfl) (by decide) ?_; clear hS; intro aa hS
          refine wpList_nil ?_
          refine hK292 _ _ ?_
          refine condF hS rfl ?_
          refine wp_skip ?_
          refine hK291 _ _ ?_
          refine wp_region_lit ?_
          refine sA hS hR (Yld.move hS rfl) (by decide) ?_; clear hS; intro aa hS
          refine sA hS hR ((by first | exact Yld.add64 hS rfl rfl (by omega) | exact Yld.add hS rfl rfl)) (by decide) ?_; clear hS; intro aa hS
          refine sA hS hR (Yld.assign hS rfl) (by decide) ?_; clear hS; intro aa hS
          refine wpList_nil ?_
          
          refine ⟨_, ?_, ?_, hS.le (Le.cons rfl (Le.nilapp (by repeat (first | with_reducible exact Le.refl _ | refine Le.skip (lk_without rfl) ?_ | refine Le_inner rfl ?_)))), hR.sub (Ex.nilapp (by repeat (first | with_reducible exact Ex.refl | with_reducible apply Ex.drop)))⟩
          · omega
          · omega
        · intro hg hS
          refine condF hS rfl ?_
          refine wp_exit ?_
          refine hK286 _ _ ?_
          refine wp_region_lit ?_
          refine sA hS hR (Yld.move hS rfl) (by decide) ?_; clear hS; intro aa hS
          refine sA hS hR ((by first | exact Yld.add64 hS rfl rfl (by omega) | exact Yld.add hS rfl rfl)) (by decide) ?_; clear hS; intro aa hS
          refine sA hS hR (Yld.assign hS rfl) (by decide) ?_; clear hS; intro aa hS
          refine wpList_nil ?_
          
          refine ⟨_, ?_, ?_, hS.le (Le.cons rfl (Le.nilapp (by repeat (first | with_reducible exact Le.refl _ | refine Le.skip (lk_without rfl) ?_ | refine Le_inner rfl ?_)))), hR.sub (Ex.nilapp (by repeat (first | with_reducible exact Ex.refl | with_reducible apply Ex.drop)))⟩
          · omega
          · omega
      · intro hg hS
        refine condF hS rfl ?_
        refine wp_exit ?_
        refine hK281 _ _ ?_
        refine wp_region_lit ?_
        refine sA hS hR (Yld.move hS rfl) (by decide) ?_; clear hS; intro aa hS
        refine sA hS hR ((by first | exact Yld.add64 hS rfl rfl (by omega) | exact Yld.add hS rfl rfl)) (by decide) ?_; clear hS; intro aa hS
        refine sA hS hR (Yld.assign hS rfl) (by decide) ?_; clear hS; intro aa hS
        refine wpList_nil ?_
        
        refine ⟨_, ?_, ?_, hS.le (Le.cons rfl (Le.nilapp (by repeat (first | with_reducible exact Le.refl _ | refine Le.skip (lk_without rfl) ?_ | refine Le_inner rfl ?_)))), hR.sub (Ex.nilapp (by repeat (first | with_reducible exact Ex.refl | with_reducible apply Ex.drop)))⟩
        · omega
        · omega
    · intro hg hS
      refine condF hS rfl ?_
      refine wp_exit ?_
      refine hK274 _ _ ?_
      refine wp_region_lit ?_
      refine sA hS hR ((by first | exact Yld.add64 hS rfl rfl (by omega) | exact Yld.add hS rfl rfl)) (by decide) ?_; clear hS; intro aa hS
      refine sA hS hR (Yld.move hS rfl) (by decide) ?_; clear hS; intro aa hS
      refine wpList_nil ?_
      
      refine ⟨_, ?_, ?_, hS.le (Le.cons rfl (Le.nilapp (by repeat (first | with_reducible exact Le.refl _ | refine Le.skip (lk_without rfl) ?_ | refine Le_inner rfl ?_)))), hR.sub (Ex.nilapp (by repeat (first | with_reducible exact Ex.refl | with_reducible apply Ex.drop)))⟩
      · omega
      · omega
  · intro hg hS
    refine condF hS rfl ?_
    refine wp_exit ?_
    refine hK269 _ _ ?_
    refine wp_seq_k ?_; intro K293 hK293
    refine wp_region_lit ?_
    refine sB (BbuildSlice hS hR rfl (bls28_15_0_1_2_3_4_5_6_7_8_9_10_11_12_13_14 _ _ _ _ _ _ _ _ _ _ _ _ _ _ _) (by decide) ?_); clear hS hR; intro aa ww bb58 hS hR
    obtain ⟨rs58, ⟨hl58, hC58⟩, hR⟩ := Sep.absL (enc := e1) (C := fun rs => rs.length = 15 ∧ ∀ r ∈ rs, True) [_, _, _, _, _, _, _, _, _, _, _, _, _, _, _] hR rfl ⟨rfl, fun _ _ => trivial⟩
    refine sA hS hR (Yld.assign hS rfl) (by decide) ?_; clear hS; intro aa hS
    refine wpList_nil ?_
    refine hK293 _ _ ?_
    refine wp_seq_k ?_; intro K294 hK294
    refine wp_seq_k ?_; intro K295 hK295
    refine wp_region_lit ?_
    refine sA hS hR (Yld.move hS rfl) (by decide) ?_; clear hS; intro aa hS
    refine sA hS hR (Yld.len hS rfl Try.underlying28) (by decide) ?_; clear hS; intro aa hS
    refine sA hS hR (Yld.move hS rfl) (by decide) ?_; clear hS; intro aa hS
    refine wpList_nil ?_
    refine hK295 _ _ ?_
    refine wp_block ?_
    refine loopI (X := Nat) (without [0, 8, 10, 11, 12, 14, 61, 62, 63, 64, 65, 66, 67, 68, 69, 70, 71, 72, 73, 74, 75, 76, 77, 78, 79, 80, 81, 82, 83, 84, 85, 86, 87, 88, 89, 90, 91, 92, 93, 94, 95, 96, 97, 98, 99, 100, 101, 102, 103, 104, 105, 106, 107, 108, 109, 110, 111, 112, 113, 114, 115, 116, 117, 118, 119, 120, 121, 122, 123, 124, 125, 126, 127, 128, 129, 130] _) (fun x => [(61, .int .i64 (x : Int))]) (fun x => []) _ (fun x => x ≤ 15) (fun x => 15 - x) 0 (by omega) (hS.le (by refine (Le.cons rfl (Le.nilapp (Le.without _ _))))) hR ?_
    clear hS hR; rintro k61 aa ww hI hS hR; dsimp only [List.cons_append, List.nil_append] at hI hS hR
    refine wp_seq_k ?_; intro K297 hK297
    refine wp_region_lit ?_
    refine sA hS hR (Yld.lss hS rfl rfl) (by decide) ?_; clear hS; intro aa hS
    refine wpList_nil ?_
    refine hK297 _ _ ?_
    refine wp_seq_k ?_; intro K298 hK298
    refine hS.splitB (t := 62) rfl ?_ ?_ <;> clear hS
    · intro hg hS
      refine condT hS rfl ?_
      refine wp_skip ?_
      refine hK298 _ _ ?_
      refine wp_seq_k ?_; intro K299 hK299
      refine wp_block ?_
      refine wp_seq_k ?_; intro K300 hK300
      refine wp_region_lit ?_
      refine sA hS hR (Yld.indexSlice hS rfl rfl Try.underlying28 info3 (by omega) (by omega)) (by decide) ?_; clear hS; intro aa hS
      refine sA hS hR (Yld.load1 hS rfl Try.underlying3 rfl (Rds.rd ((Rds.flat (by repeat (first | with_reducible exact Pk.here | with_reducible apply Pk.there)) e1_len (show k61 < rs58.length by omega)).at (by show _ = k61 * 1; have h : (Try.t3).size = 1 := rfl; rw [h]; omega)) rfl)) (by decide) ?_; clear hS; intro aa hS
      refine sA hS hR (Yld.assign hS rfl) (by decide) ?_; clear hS; intro aa hS
      refine wpList_nil ?_
      refine hK300 _ _ ?_
      refine wp_seq_k ?_; intro K301 hK301
      refine wp_region_lit ?_
      refine sA hS hR (Yld.move hS rfl) (by decide) ?_; clear hS; intro aa hS
      refine sA hS hR (Yld.len hS rfl Try.underlying28) (by decide) ?_; clear hS; intro aa hS
      refine sA hS hR (Yld.move hS rfl) (by decide) ?_; clear hS; intro aa hS
      refine wpList_nil ?_
      refine hK301 _ _ ?_
      refine wp_block ?_
      refine loopI (X := Nat) (without [0, 10, 11, 12, 14, 67, 68, 69, 70, 71, 72, 73, 74, 75, 76, 77, 78, 79, 80, 81, 82, 83, 84, 85, 86, 87, 88, 89, 90, 91, 92, 93, 94, 95, 96, 97, 98, 99, 100, 101, 102, 103, 104, 105, 106, 107, 108, 109, 110, 111, 112, 113, 114, 115, 116, 117, 118, 119, 120, 121, 122, 123, 124, 125, 126, 127, 128, 129] _) (fun x => [(67, .int .i64 (x : Int))]) (fun x => []) _ (fun x => x ≤ 15) (fun x => 15 - x) 0 (by omega) (hS.le (by refine (Le.cons rfl (Le.nilapp (Le.without _ _))))) hR ?_
      clear hS hR; rintro k67 aa ww hI hS hR; dsimp only [List.cons_append, List.nil_append] at hI hS hR
      refine wp_seq_k ?_; intro K303 hK303
      refine wp_region_lit ?_
      refine sA hS hR (Yld.lss hS rfl rfl) (by decide) ?_; clear hS; intro aa hS
      refine wpList_nil ?_
      refine hK303 _ _ ?_
      refine wp_seq_k ?_; intro K304 hK304
      refine hS.splitB (t := 68) rfl ?_ ?_ <;> clear hS
      · intro hg hS
        refine condT hS rfl ?_
        refine wp_skip ?_
        refine hK304 _ _ ?_
        refine wp_seq_k ?_; intro K305 hK305
        refine wp_block ?_
        refine wp_seq_k ?_; intro K306 hK306
        refine wp_region_lit ?_
        refine sA hS hR (Yld.indexSlice hS rfl rfl Try.underlying28 info3 (by omega) (by omega)) (by decide) ?_; clear hS; intro aa hS
        refine sA hS hR (Yld.load1 hS rfl Try.underlying3 rfl (Rds.rd ((Rds.flat (by repeat (first | with_reducible exact Pk.here | with_reducible apply Pk.there)) e1_len (show k67 < rs58.length by omega)).at (by show _ = k67 * 1; have h : (Try.t3).size = 1 := rfl; rw [h]; omega)) rfl)) (by decide) ?_; clear hS; intro aa hS
        refine sA hS hR (Yld.assign hS rfl) (by decide) ?_; clear hS; intro aa hS
        refine wpList_nil ?_
        refine hK306 _ _ ?_
        refine wp_seq_k ?_; intro K307 hK307
        refine wp_region_lit ?_
        refine sA hS hR (Yld.move hS rfl) (by decide) ?_; clear hS; intro aa hS
        refine sA hS hR (Yld.move hS rfl) (by decide) ?_; clear hS; intro aa hS
        refine sB (Bcall hS rfl Try.call13 (rate_ok hR) (by decide) ?_); clear hS; intro aa ww vv hS hp
        clear hR
        obtain ⟨rfl, hR⟩ := hp
        refine sA hS hR (Yld.move hS rfl) (by decide) ?_; clear hS; intro aa hS
        refine sA hS hR (Yld.move hS rfl) (by decide) ?_; clear hS; intro aa hS
        refine sB (Bcall hS rfl Try.call13 (rate_ok hR) (by decide) ?_); clear hS; intro aa ww vv hS hp
        clear hR
        obtain ⟨rfl, hR⟩ := hp
        refine sA hS hR (Yld.move hS rfl) (by decide) ?_; clear hS; intro aa hS
        refine sA hS hR (Yld.move hS rfl) (by decide) ?_; clear hS; intro aa hS
        refine sB (Bcall hS rfl Try.call13 (rate_ok hR) (by decide) ?_); clear hS; intro aa ww vv hS hp
        clear hR
        obtain ⟨rfl, hR⟩ := hp
        refine sB (Bcall hS rfl Try.call13 (rate_ok hR) (by decide) ?_); clear hS; intro aa ww vv hS hp
        clear hR
        obtain ⟨rfl, hR⟩ := hp
        refine sB (Bcall hS rfl Try.call13 (rate_ok hR) (by decide) ?_); clear hS; intro aa ww vv hS hp
        clear hR
        obtain ⟨rfl, hR⟩ := hp
        refine sB (Bcall hS rfl Try.call13 (rate_ok hR) (by decide) ?_); clear hS; intro aa ww vv hS hp
        clear hR
        obtain ⟨rfl, hR⟩ := hp
        refine sB (BbuildSlice hS hR rfl (bls30_6_0_1_2_3_4_5 _ _ _ _ _ _ _ _ _ _ _ _ _ _ _ _ _ _) (by decide) ?_); clear hS hR; intro aa ww bb83 hS hR
        obtain ⟨rs83, ⟨hl83, hC83⟩, hR⟩ := Sep.absL (enc := e3) (C := fun rs => rs.length = 6 ∧ ∀ r ∈ rs, True) [(_, _, _), (_, _, _), (_, _, _), (_, _, _), (_, _, _), (_, _, _)] hR rfl ⟨rfl, fun _ _ => trivial⟩
        refine sA hS hR (Yld.len hS rfl Try.underlying30) (by decide) ?_; clear hS; intro aa hS
        refine sA hS hR (Yld.move hS rfl) (by decide) ?_; clear hS; intro aa hS
        refine wpList_nil ?_
        refine hK307 _ _ ?_
        refine wp_block ?_
        refine loopI (X := Nat) (without [0, 11, 12, 14, 85, 86, 87, 88, 89, 90, 91, 92, 93, 94, 95, 96, 97, 98, 99, 100, 101, 102, 103, 104, 105, 106, 107, 108, 109, 110, 111, 112, 113, 114, 115, 116, 117, 118, 119, 120, 121, 122, 123, 124, 125, 126, 127, 128] _) (fun x => [(85, .int .i64 (x : Int))]) (fun x => []) _ (fun x => x ≤ 6) (fun x => 6 - x) 0 (by omega) (hS.le (by refine (Le.cons rfl (Le.nilapp (Le.without _ _))))) hR ?_
        clear hS hR; rintro k85 aa ww hI hS hR; dsimp only [List.cons_append, List.nil_append] at hI hS hR
        refine wp_seq_k ?_; intro K309 hK309
        refine wp_region_lit ?_
        refine sA hS hR (Yld.lss hS rfl rfl) (by decide) ?_; clear hS; intro aa hS
        refine wpList_nil ?_
        refine hK309 _ _ ?_
        refine wp_seq_k ?_; intro K310 hK310
        refine hS.splitB (t := 86) rfl ?_ ?_ <;> clear hS
        · intro hg hS
          refine condT hS rfl ?_
          refine wp_skip ?_
          refine hK310 _ _ ?_
          refine wp_seq_k ?_; intro K311 hK311
          refine wp_block ?_
          refine wp_seq_k ?_; intro K312 hK312
          refine wp_region_lit ?_
          refine sA hS hR (Yld.move hS rfl) (by decide) ?_; clear hS; intro aa hS
          refine sA hS hR (Yld.indexSlice hS rfl rfl Try.underlying30 info23 (by omega) (by omega)) (by decide) ?_; clear hS; intro aa hS
          refine sA hS hR (Yld.loadAgg hS rfl Try.underlying23 rfl info23 ((Rds.flat (by repeat (first | with_reducible exact Pk.here | with_reducible apply Pk.there)) e3_len (show k85 < rs83.length by omega)).at (by show _ = k85 * 3; have h : (Try.t23).size = 3 := rfl; rw [h]; omega)) (by rfl)) (by decide) ?_; clear hS; intro aa hS
          refine sB (Balloc hS hR info23 (by rfl) (by rfl) (by decide) ?_); clear hS hR; intro aa ww bb12 hS hR
          refine sA hS hR (Yld.assign hS rfl) (by decide) ?_; clear hS; intro aa hS
          refine sB (Bstore hS hR rfl rfl (by rfl) info23 (by rfl) (by repeat (first | with_reducible exact Pk.here | with_reducible apply Pk.there)) (by rfl) (Nat.le_of_ble_eq_true rfl) ?_); clear hR; intro ww hR
          refine wpList_nil ?_
          refine hK312 _ _ ?_
          refine wp_seq_k ?_; intro K313 hK313
          refine wp_region_lit ?_
          refine sA hS hR (Yld.build hS rfl (bld25_)) (by decide) ?_; clear hS; intro aa hS
          refine sA hS hR (Yld.move hS rfl) (by decide) ?_; clear hS; intro aa hS
          refine sA hS hR (Yld.move hS rfl) (by decide) ?_; clear hS; intro aa hS
          refine sA hS hR (Yld.build hS rfl (bld25_0_1 _ _)) (by decide) ?_; clear hS; intro aa hS
          refine sA hS hR (Yld.move hS rfl) (by decide) ?_; clear hS; intro aa hS
          refine sA hS hR (Yld.build hS rfl (bld25_0_1 _ _)) (by decide) ?_; clear hS; intro aa hS
          refine sA hS hR (Yld.move hS rfl) (by decide) ?_; clear hS; intro aa hS
          refine sA hS hR (Yld.build hS rfl (bld25_0_1 _ _)) (by decide) ?_; clear hS; intro aa hS
          refine sB (BbuildSlice hS hR rfl (bls31_4_0_1_2_3 _ _ _ _ _ _ _ _) (by decide) ?_); clear hS hR; intro aa ww bb98 hS hR
          obtain ⟨rs98, ⟨hl98, hC98⟩, hR⟩ := Sep.absL (enc := e2) (C := fun rs => rs.length = 4 ∧ ∀ r ∈ rs, True) [(_, _), (_, _), (_, _), (_, _)] hR rfl ⟨rfl, fun _ _ => trivial⟩
          refine sA hS hR (Yld.len hS rfl Try.underlying31) (by decide) ?_; clear hS; intro aa hS
          refine sA hS hR (Yld.move hS rfl) (by decide) ?_; clear hS; intro aa hS
          refine wpList_nil ?_
          refine hK313 _ _ ?_
          refine wp_block ?_
          refine loopI (X := Nat) (without [0, 14, 100, 101, 102, 103, 104, 105, 106, 107, 108, 109, 110, 111, 112, 113, 114, 115, 116, 117, 118, 119, 120, 121, 122, 123, 124, 125, 126, 127] _) (fun x => [(100, .int .i64 (x : Int))]) (fun x => []) _ (fun x => x ≤ 4) (fun x => 4 - x) 0 (by omega) (hS.le (by refine (Le.cons rfl (Le.nilapp (Le.without _ _))))) hR ?_
          clear hS hR; rintro k100 aa ww hI hS hR; dsimp only [List.cons_append, List.nil_append] at hI hS hR
          refine wp_seq_k ?_; intro K315 hK315
          refine wp_region_lit ?_
          refine sA hS hR (Yld.lss hS rfl rfl) (by decide) ?_; clear hS; intro aa hS
          refine wpList_nil ?_
          refine hK315 _ _ ?_
          refine wp_seq_k ?_; intro K316 hK316
          refine hS.splitB (t := 101) rfl ?_ ?_ <;> clear hS
          · intro hg hS
            refine condT hS rfl ?_
            refine wp_skip ?_
            refine hK316 _ _ ?_
            refine wp_seq_k ?_; intro K317 hK317
            refine wp_block ?_
            refine wp_seq_k ?_; intro K318 hK318
            refine wp_region_lit ?_
            refine sA hS hR (Yld.indexSlice hS rfl rfl Try.underlying31 info25 (by omega) (by omega)) (by decide) ?_; clear hS; intro aa hS
            refine sA hS hR (Yld.loadAgg hS rfl Try.underlying25 rfl info25 ((Rds.flat (by repeat (first | with_reducible exact Pk.here | with_reducible apply Pk.there)) e2_len (show k100 < rs98.length by omega)).at (by show _ = k100 * 2; have h : (Try.t25).size = 2 := rfl; rw [h]; omega)) (by rfl)) (by decide) ?_; clear hS; intro aa hS
            refine sB (Balloc hS hR info25 (by rfl) (by rfl) (by decide) ?_); clear hS hR; intro aa ww bb14 hS hR
            refine sB (Bstore hS hR rfl rfl (by rfl) info25 (by rfl) (by repeat (first | with_reducible exact Pk.here | with_reducible apply Pk.there)) (by rfl) (Nat.le_of_ble_eq_true rfl) ?_); clear hR; intro ww hR
            refine wpList_nil ?_
            refine hK318 _ _ ?_
            refine wp_seq_k ?_; intro K319 hK319
            refine wp_region_lit ?_
            refine sA hS hR (Yld.loadAgg hS rfl Try.underlying23 rfl info23 (Rds.cons (Rd.blk (by repeat (first | with_reducible exact Pk.here | with_reducible apply Pk.there)) (by rfl)) (Rds.cons (Rd.blk (by repeat (first | with_reducible exact Pk.here | with_reducible apply Pk.there)) (by rfl)) (Rds.cons (Rd.blk (by repeat (first | with_reducible exact Pk.here | with_reducible apply Pk.there)) (by rfl)) (Rds.nil)))) (by rfl)) (by decide) ?_; clear hS; intro aa hS
            refine sA hS hR (Yld.loadAgg hS rfl Try.underlying25 rfl info25 (Rds.cons (Rd.blk (by repeat (first | with_reducible exact Pk.here | with_reducible apply Pk.there)) (by rfl)) (Rds.cons (Rd.blk (by repeat (first | with_reducible exact Pk.here | with_reducible apply Pk.there)) (by rfl)) (Rds.nil))) (by rfl)) (by decide) ?_; clear hS; intro aa hS
            refine sA hS hR (Yld.move hS rfl) (by decide) ?_; clear hS; intro aa hS
            refine sA hS hR (Yld.move hS rfl) (by decide) ?_; clear hS; intro aa hS
            refine sB (Bcall hS rfl Try.call11 (tells_ok hR) (by decide) ?_); clear hS; intro aa ww vv hS hp
            clear hR
            obtain ⟨rfl, hR⟩ := hp
            refine sA hS hR (Yld.not hS rfl) (by decide) ?_; clear hS; intro aa hS
            refine sA hS hR (Yld.move hS rfl) (by decide) ?_; clear hS; intro aa hS
            refine sAg hS hR rfl rfl (Yld.loadAgg hS rfl Try.underlying23 rfl info23 (Rds.cons (Rd.blk (by repeat (first | with_reducible exact Pk.here | with_reducible apply Pk.there)) (by rfl)) (Rds.cons (Rd.blk (by repeat (first | with_reducible exact Pk.here | with_reducible apply Pk.there)) (by rfl)) (Rds.cons (Rd.blk (by repeat (first | with_reducible exact Pk.here | with_reducible apply Pk.there)) (by rfl)) (Rds.nil)))) (by rfl)) (by decide) ?_; clear hS; intro aa hS
            refine sAg hS hR rfl rfl (Yld.loadAgg hS rfl Try.underlying25 rfl info25 (Rds.cons (Rd.blk (by repeat (first | with_reducible exact Pk.here | with_reducible apply Pk.there)) (by rfl)) (Rds.cons (Rd.blk (by repeat (first | with_reducible exact Pk.here | with_reducible apply Pk.there)) (by rfl)) (Rds.nil))) (by rfl)) (by decide) ?_; clear hS; intro aa hS
            refine sAg hS hR rfl rfl (Yld.move hS rfl) (by decide) ?_; clear hS; intro aa hS
            refine sAg hS hR rfl rfl (Yld.move hS rfl) (by decide) ?_; clear hS; intro aa hS
            refine sAg hS hR rfl rfl ((by first | exact Yld.rem64 hS rfl rfl (by omega) | exact Yld.rem hS rfl rfl (by omega))) (by decide) ?_; clear hS; intro aa hS
            refine sAg hS hR rfl rfl ((by first | exact Yld.add64 hS rfl rfl (by omega) | exact Yld.add hS rfl rfl)) (by decide) ?_; clear hS; intro aa hS
            refine sBg hS rfl rfl (Bcall hS rfl Try.call11 (tells_ok hR) (by decide) ?_); clear hS; intro aa ww vv hS hp
            clear hR
            obtain ⟨rfl, hR⟩ := hp
            refine sAg hS hR rfl rfl (Yld.not hS rfl) (by decide) ?_; clear hS; intro aa hS
            refine sA hS hR (Yld.pickF hS rfl rfl) (by decide) ?_; clear hS; intro aa hS
            refine sA hS hR (Yld.move hS rfl) (by decide) ?_; clear hS; intro aa hS
            refine sAg hS hR rfl rfl (Yld.loadAgg hS rfl Try.underlying23 rfl info23 (Rds.cons (Rd.blk (by repeat (first | with_reducible exact Pk.here | with_reducible apply Pk.there)) (by rfl)) (Rds.cons (Rd.blk (by repeat (first | with_reducible exact Pk.here | with_reducible apply Pk.there)) (by rfl)) (Rds.cons (Rd.blk (by repeat (first | with_reducible exact Pk.here | with_reducible apply Pk.there)) (by rfl)) (Rds.nil)))) (by rfl)) (by decide) ?_; clear hS; intro aa hS
            refine sAg hS hR rfl rfl (Yld.loadAgg hS rfl Try.underlying25 rfl info25 (Rds.cons (Rd.blk (by repeat (first | with_reducible exact Pk.here | with_reducible apply Pk.there)) (by rfl)) (Rds.cons (Rd.blk (by repeat (first | with_reducible exact Pk.here | with_reducible apply Pk.there)) (by rfl)) (Rds.nil))) (by rfl)) (by decide) ?_; clear hS; intro aa hS
            refine sAg hS hR rfl rfl (Yld.move hS rfl) (by decide) ?_; clear hS; intro aa hS
            refine sBg hS rfl rfl (Bcall hS rfl Try.call11 (tells_ok hR) (by decide) ?_); clear hS; intro aa ww vv hS hp
            clear hR
            obtain ⟨rfl, hR⟩ := hp
            refine sAg hS hR rfl rfl (Yld.not hS rfl) (by decide) ?_; clear hS; intro aa hS
            refine sA hS hR (Yld.pickF hS rfl rfl) (by decide) ?_; clear hS; intro aa hS
            refine wpList_nil ?_
            refine hK319 _ _ ?_
            refine condF hS rfl ?_
            refine wp_skip ?_
            refine hK317 _ _ ?_
            refine wp_region_lit ?_
            refine sA hS hR ((by first | exact Yld.add64 hS rfl rfl (by omega) | exact Yld.add hS rfl rfl)) (by decide) ?_; clear hS; intro aa hS
            refine sA hS hR (Yld.move hS rfl) (by decide) ?_; clear hS; intro aa hS
            refine wpList_nil ?_
            
            refine ⟨k100 + 1, ?_, ?_, hS.le (Le.cons rfl (Le.nilapp (by repeat (first | with_reducible exact Le.refl _ | refine Le.skip (lk_without rfl) ?_ | refine Le_inner rfl ?_)))), hR.sub (Ex.nilapp (by repeat (first | with_reducible exact Ex.refl | with_reducible apply Ex.drop)))⟩
            · omega
            · omega
          · intro hg hS
            refine condF hS rfl ?_
            refine wp_exit ?_
            refine hK311 _ _ ?_
            refine wp_region_lit ?_
            refine sA hS hR ((by first | exact Yld.add64 hS rfl rfl (by omega) | exact Yld.add hS rfl rfl)) (by decide) ?_; clear hS; intro aa hS
            refine sA hS hR (Yld.move hS rfl) (by decide) ?_; clear hS; intro aa hS
            refine wpList_nil ?_
            
            refine ⟨k85 + 1, ?_, ?_, hS.le (Le.cons rfl (Le.nilapp (by repeat (first | with_reducible exact Le.refl _ | refine Le.skip (lk_without rfl) ?_ | refine Le_inner rfl ?_)))), hR.sub (Ex.nilapp (by repeat (first | with_reducible exact Ex.refl | with_reducible apply Ex.drop)))⟩
            · omega
            · omega
        · intro hg hS
          refine condF hS rfl ?_
          refine wp_exit ?_
          refine hK305 _ _ ?_
          refine wp_region_lit ?_
          refine sA hS hR ((by first | exact Yld.add64 hS rfl rfl (by omega) | exact Yld.add hS rfl rfl)) (by decide) ?_; clear hS; intro aa hS
          refine sA hS hR (Yld.move hS rfl) (by decide) ?_; clear hS; intro aa hS
          refine wpList_nil ?_
          
          refine ⟨k67 + 1, ?_, ?_, hS.le (Le.cons rfl (Le.nilapp (by repeat (first | with_reducible exact Le.refl _ | refine Le.skip (lk_without rfl) ?_ | refine Le_inner rfl ?_)))), hR.sub (Ex.nilapp (by repeat (first | with_reducible exact Ex.refl | with_reducible apply Ex.drop)))⟩
          · omega
          · omega
      · intro hg hS
        refine condF hS rfl ?_
        refine wp_exit ?_
        refine hK299 _ _ ?_
        refine wp_region_lit ?_
        refine sA hS hR ((by first | exact Yld.add64 hS rfl rfl (by omega) | exact Yld.add hS rfl rfl)) (by decide) ?_; clear hS; intro aa hS
        refine sA hS hR (Yld.move hS rfl) (by decide) ?_; clear hS; intro aa hS
        refine wpList_nil ?_
        
        refine ⟨k61 + 1, ?_, ?_, hS.le (Le.cons rfl (Le.nilapp (by repeat (first | with_reducible exact Le.refl _ | refine Le.skip (lk_without rfl) ?_ | refine Le_inner rfl ?_)))), hR.sub (Ex.nilapp (by repeat (first | with_reducible exact Ex.refl | with_reducible apply Ex.drop)))⟩
        · omega
        · omega
    · intro hg hS
      refine condF hS rfl ?_
      refine wp_exit ?_
      refine hK294 _ _ ?_
      refine wp_seq_k ?_; intro K320 hK320
      refine wp_region_lit ?_
      refine sB (Bcall hS rfl Try.call12 (awake_ok hR) (by decide) ?_); clear hS; intro aa ww vv hS hp
      clear hR
      obtain ⟨rfl, hR⟩ := hp
      refine sA hS hR (Yld.assign hS rfl) (by decide) ?_; clear hS; intro aa hS
      refine wpList_nil ?_
      refine hK320 _ _ ?_
      refine wp_ret ?_
      repeat (first | with_reducible refine thenR ?_ | with_reducible refine blockR ?_ | with_reducible refine scopeR ?_)
      refine ret1 (fn := Try.f4) (e := .ret) (.inl rfl) Try.results4 hS hR ⟨_, (.tmp rfl), ?_⟩
      exact ⟨rfl, (hR.sub (by repeat (first | with_reducible exact Ex.refl | with_reducible apply Ex.drop)))⟩
end Go.Proofs.Ytioacnbpnnabaaa.Sx
