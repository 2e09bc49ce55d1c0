/-
  
-/
import Derived.Test.YtmlebadfedleoaaLwC
namespace Go.Proofs.Ytmlebadfedleoaa.Sx
open Go
set_option linter.unusedVariables false
set_option linter.unusedSimpArgs false



set_option maxHeartbeats 4000000 in
set_option maxRecDepth 20000 in
theorem ArenaWrong_ok {a s u : Int} {l : List HP} {w : World} (hR : Sep l w) (ha : 0 ≤ a ∧ a ≤ 255) : CallR Try.prog 4 [.int .u8 a, .int .i64 s, .int .i64 u] w (fun v w' => v = .bool true ∧ Sep l w') := by
  refine enter Try.func4 rfl Try.ntmps4 (Nat.le_of_ble_eq_true rfl) ?_; intro aa hS
  refine wp_seq_k ?_; intro K357 hK357
  refine wp_region_lit ?_
  refine sA hS hR (Yld.assign hS rfl) (by decide) ?_; clear hS; intro aa hS
  refine wpList_nil ?_
  refine hK357 _ _ ?_
  refine wp_seq_k ?_; intro K358 hK358
  refine wp_region_lit ?_
  refine sA hS hR (Yld.move hS rfl) (by decide) ?_; clear hS; intro aa hS
  refine sA hS hR ((by first | exact Yld.to (Yld.convInt hS rfl rfl Try.underlying3) (congrArg (Value.int .i64) (IntWalk.i64_in _ (by omega))) | exact Yld.convInt hS rfl rfl Try.underlying3)) (by decide) ?_; clear hS; intro aa hS
  refine sA hS hR ((by first | exact Yld.rem64 hS rfl rfl (by omega) | exact Yld.rem hS rfl rfl (by omega))) (by decide) ?_; clear hS; intro aa hS
  refine sA hS hR ((by first | exact Yld.add64 hS rfl rfl (by omega) | exact Yld.add hS rfl rfl)) (by decide) ?_; clear hS; intro aa hS
  obtain ⟨m, hm, bm⟩ : ∃ y : Nat, 1 + a % 16 = (y : Int) ∧ 1 ≤ y ∧ y ≤ 16 := ⟨(1 + a % 16).toNat, by omega, by omega⟩
  replace hS := hS.say (t := 19) (.int .i64 (m : Int)) rfl (by rw [hm])
  refine sA hS hR (Yld.assign hS rfl) (by decide) ?_; clear hS; intro aa hS
  refine wpList_nil ?_
  refine hK358 _ _ ?_
  refine wp_seq_k ?_; intro K359 hK359
  refine wp_region_lit ?_
  refine sA hS hR (Yld.move hS rfl) (by decide) ?_; clear hS; intro aa hS
  refine sB (Bcall hS rfl Try.call9 (New_ok hR (by omega)) (by decide) ?_); clear hS; intro aa ww vv hS hp
  clear hR
  obtain ⟨b, rfl, hR⟩ := hp
  rw [Int.toNat_natCast] at hR
  refine sA hS hR (Yld.move hS rfl) (by decide) ?_; clear hS; intro aa hS
  refine sA hS hR (Yld.extract hS rfl rfl) (by decide) ?_; clear hS; intro aa hS
  refine sA hS hR (Yld.extract hS rfl rfl) (by decide) ?_; clear hS; intro aa hS
  refine sA hS hR (Yld.assign hS rfl) (by decide) ?_; clear hS; intro aa hS
  refine sA hS hR (Yld.assign hS rfl) (by decide) ?_; clear hS; intro aa hS
  refine wpList_nil ?_
  refine hK359 _ _ ?_
  refine wp_seq_k ?_; intro K360 hK360
  refine wp_seq_k ?_; intro K361 hK361
  refine wp_region_lit ?_
  refine sA hS hR (Yld.move hS rfl) (by decide) ?_; clear hS; intro aa hS
  refine sA hS hR (Yld.neq hS rfl rfl) (by decide) ?_; clear hS; intro aa hS
  replace hS := hS.sayB (t := 26) false rfl (by simp)
  refine sA hS hR (Yld.move hS rfl) (by decide) ?_; clear hS; intro aa hS
  refine sAg hS hR rfl rfl (Yld.move hS rfl) (by decide) ?_; clear hS; intro aa hS
  refine sAg hS hR rfl rfl (Yld.eqlNil hS rfl rfl Try.underlying23) (by decide) ?_; clear hS; intro aa hS
  replace hS := hS.sayB (t := 29) false rfl (by simp)
  refine sA hS hR (Yld.pickF hS rfl rfl) (by decide) ?_; clear hS; intro aa hS
  refine wpList_nil ?_
  refine hK361 _ _ ?_
  refine condF hS rfl ?_
  refine wp_skip ?_
  refine hK360 _ _ ?_
  refine wp_seq_k ?_; intro K362 hK362
  refine wp_seq_k ?_; intro K363 hK363
  refine wp_region_lit ?_
  refine sA hS hR (Yld.move hS rfl) (by decide) ?_; clear hS; intro aa hS
  refine sA hS hR ((by first | exact Yld.quo64 hS rfl rfl (by omega) | exact Yld.quo hS rfl rfl (by omega))) (by decide) ?_; clear hS; intro aa hS
  obtain ⟨h, hh, bh⟩ : ∃ y : Nat, (m : Int) / 2 = (y : Int) ∧ y ≤ m / 2 := ⟨((m : Int) / 2).toNat, by omega, by omega⟩
  replace hS := hS.say (t := 32) (.int .i64 (h : Int)) rfl (by rw [hh])
  refine sA hS hR (Yld.move hS rfl) (by decide) ?_; clear hS; intro aa hS
  refine wpList_nil ?_
  refine hK363 _ _ ?_
  refine wp_block ?_
  replace hR := hR.pk (r := arena 57 60 b (Ar.new m)) (by repeat (first | with_reducible exact Pk.here | with_reducible apply Pk.there))
  refine loopI (X := Nat) [(1, _), (2, _), (6, _), (7, _), (8, _), (32, _)] (fun x => [(33, .int .i64 (x : Int))]) (fun x => [arena 57 60 b ((Ar.new m).takes x)]) _ (fun x => x ≤ h) (fun x => h - x) 0 (Nat.zero_le _) (hS.le (Le.cons rfl (Le.nilapp (Le.cons rfl (Le.cons rfl (Le.cons rfl (Le.cons rfl (Le.cons rfl (Le.cons rfl (Le.nil _)))))))))) hR ?_
  clear hS hR; rintro k aa ww hI hS hR; dsimp only [List.cons_append, List.nil_append] at hI hS hR
  refine wp_seq_k ?_; intro K365 hK365
  refine wp_region_lit ?_
  refine sA hS hR (Yld.lss hS rfl rfl) (by decide) ?_; clear hS; intro aa hS
  refine wpList_nil ?_
  refine hK365 _ _ ?_
  refine wp_seq_k ?_; intro K366 hK366
  refine hS.splitB (t := 34) rfl ?_ ?_ <;> clear hS
  · intro hg hS
    refine condT hS rfl ?_
    refine wp_skip ?_
    refine hK366 _ _ ?_
    refine wp_seq_k ?_; intro K367 hK367
    refine wp_block ?_
    refine wp_region_lit ?_
    refine sA hS hR (Yld.move hS rfl) (by decide) ?_; clear hS; intro aa hS
    refine sB (Bcall hS rfl Try.call10 (Take_okA (hR.pk (r := arena 57 60 _ _) (by repeat (first | with_reducible exact Pk.here | with_reducible apply Pk.there)))) (by decide) ?_); clear hS; intro aa ww vv hS hp
    clear hR
    obtain ⟨rfl, hR⟩ := hp
    change Sep (arena 57 60 b ((Ar.new m).takes (k + 1)) :: _) _ at hR
    refine wpList_nil ?_
    refine hK367 _ _ ?_
    refine wp_region_lit ?_
    refine sA hS hR ((by first | exact Yld.add64 hS rfl rfl (by omega) | exact Yld.add hS rfl rfl)) (by decide) ?_; clear hS; intro aa hS
    refine sA hS hR (Yld.move hS rfl) (by decide) ?_; clear hS; intro aa hS
    refine wpList_nil ?_
    
    refine ⟨k + 1, ?_, ?_, hS.le (Le.cons rfl (Le.nilapp (Le.cons rfl (Le.cons rfl (Le.cons rfl (Le.cons rfl (Le.cons rfl (Le.cons rfl (Le.nil _))))))))), hR.sub (Ex.take (by repeat (first | with_reducible exact Pk.here | with_reducible apply Pk.there)) (Ex.nilapp (by repeat (first | with_reducible exact Ex.refl | (with_reducible apply Ex.take; · repeat (first | with_reducible exact Pk.here | with_reducible apply Pk.there)) | with_reducible apply Ex.drop))))⟩
    · omega
    · omega
  · intro hg hS
    obtain rfl : h = k := by omega
    refine condF hS rfl ?_
    refine wp_exit ?_
    refine hK362 _ _ ?_
    refine wp_seq_k ?_; intro K368 hK368
    refine wp_region_lit ?_
    refine sA hS hR (Yld.move hS rfl) (by decide) ?_; clear hS; intro aa hS
    refine sA hS hR (Yld.move hS rfl) (by decide) ?_; clear hS; intro aa hS
    refine sA hS hR (Yld.build hS rfl (bld29_0_1 _ _)) (by decide) ?_; clear hS; intro aa hS
    refine sB (Balloc hS hR info29 (by rfl) (by rfl) (by decide) ?_); clear hS hR; intro aa ww bb10 hS hR
    refine sB (Bstore hS hR rfl rfl (by rfl) info29 (by rfl) (by repeat (first | with_reducible exact Pk.here | with_reducible apply Pk.there)) (by rfl) (Nat.le_of_ble_eq_true rfl) ?_); clear hR; intro ww hR
    refine wpList_nil ?_
    refine hK368 _ _ ?_
    refine wp_seq_k ?_; intro K369 hK369
    refine wp_region_lit ?_
    refine sA hS hR (Yld.move hS rfl) (by decide) ?_; clear hS; intro aa hS
    refine sA hS hR (Yld.geq hS rfl rfl) (by decide) ?_; clear hS; intro aa hS
    refine sA hS hR (Yld.move hS rfl) (by decide) ?_; clear hS; intro aa hS
    refine hS.splitB (t := 43) rfl ?_ ?_ <;> clear hS
    · intro hg hS
      refine sAg hS hR rfl rfl (Yld.move hS rfl) (by decide) ?_; clear hS; intro aa hS
      refine sAg hS hR rfl rfl (Yld.move hS rfl) (by decide) ?_; clear hS; intro aa hS
      refine sAg hS hR rfl rfl ((by first | exact Yld.quo64 hS rfl rfl (by omega) | exact Yld.quo hS rfl rfl (by omega))) (by decide) ?_; clear hS; intro aa hS
      refine sAg hS hR rfl rfl (Yld.lss hS rfl rfl) (by decide) ?_; clear hS; intro aa hS
      refine sA hS hR (Yld.pickT hS rfl rfl) (by decide) ?_; clear hS; intro aa hS
      refine sA hS hR (Yld.move hS rfl) (by decide) ?_; clear hS; intro aa hS
      refine hS.splitB (t := 49) rfl ?_ ?_ <;> clear hS
      · intro hg hS
        refine sAg hS hR rfl rfl (Yld.move hS rfl) (by decide) ?_; clear hS; intro aa hS
        refine sAg hS hR rfl rfl (Yld.eql hS rfl rfl) (by decide) ?_; clear hS; intro aa hS
        refine hS.splitB (t := 51) rfl ?_ ?_ <;> clear hS
        · intro hg hS
          refine sA hS hR (Yld.pickT hS rfl rfl) (by decide) ?_; clear hS; intro aa hS
          refine sA hS hR (Yld.assign hS rfl) (by decide) ?_; clear hS; intro aa hS
          refine wpList_nil ?_
          refine hK369 _ _ ?_
          refine wp_seq_k ?_; intro K370 hK370
          refine wp_seq_k ?_; intro K371 hK371
          refine wp_region_lit ?_
          refine sA hS hR (Yld.move hS rfl) (by decide) ?_; clear hS; intro aa hS
          refine sA hS hR (Yld.loadAgg hS rfl Try.underlying29 rfl info29 (by first | exact Rds.cons (Rd.blk (by repeat (first | with_reducible exact Pk.here | with_reducible apply Pk.there)) (by rfl)) (Rds.cons (Rd.blk (by repeat (first | with_reducible exact Pk.here | with_reducible apply Pk.there)) (by rfl)) (Rds.nil)) | exact Rds.rec (by repeat (first | with_reducible exact Pk.here | with_reducible apply Pk.there)) (by intro _; rfl) (by omega) | exact Rds.flat1 (by repeat (first | with_reducible exact Pk.here | with_reducible apply Pk.there)) (by intro _; rfl) (by omega)) (by rfl)) (by decide) ?_; clear hS; intro aa hS
          refine sB (Bcall hS rfl Try.call13 (Live_okA (hR.pk (r := arena 57 60 _ _) (by repeat (first | with_reducible exact Pk.here | with_reducible apply Pk.there)))) (by decide) ?_); clear hS; intro aa ww vv hS hp
          clear hR
          obtain ⟨rfl, hR⟩ := hp
          replace hS := hS.sayB (t := 55) true rfl (by exact decide_eq_true ((tkn_at (by omega) (by omega) s u).2 ⟨by omega, by omega, by omega⟩))
          refine sA hS hR (Yld.move hS rfl) (by decide) ?_; clear hS; intro aa hS
          refine sA hS hR (Yld.neqB hS rfl rfl Try.underlying4) (by decide) ?_; clear hS; intro aa hS
          replace hS := hS.sayB (t := 57) false rfl (by rfl)
          refine wpList_nil ?_
          refine hK371 _ _ ?_
          refine condF hS rfl ?_
          refine wp_skip ?_
          refine hK370 _ _ ?_
          refine wp_seq_k ?_; intro K372 hK372
          refine wp_region_lit ?_
          refine sA hS hR (Yld.move hS rfl) (by decide) ?_; clear hS; intro aa hS
          refine sB (Bcall hS rfl Try.call14 (Free_okA (hR.pk (r := arena 57 60 _ _) (by repeat (first | with_reducible exact Pk.here | with_reducible apply Pk.there)))) (by decide) ?_); clear hS; intro aa ww vv hS hp
          clear hR
          obtain ⟨rf, crf, rfl, hR⟩ := hp
          refine sA hS hR (Yld.move hS rfl) (by decide) ?_; clear hS; intro aa hS
          refine sB (Bcall hS rfl Try.call15 (Count_okA (hR.pk (r := arena 57 60 _ _) (by repeat (first | with_reducible exact Pk.here | with_reducible apply Pk.there)))) (by decide) ?_); clear hS; intro aa ww vv hS hp
          clear hR
          obtain ⟨rfl, hR⟩ := hp
          refine sA hS hR (Yld.assign hS rfl) (by decide) ?_; clear hS; intro aa hS
          refine sA hS hR (Yld.assign hS rfl) (by decide) ?_; clear hS; intro aa hS
          refine wpList_nil ?_
          refine hK372 _ _ ?_
          refine wp_seq_k ?_; intro K373 hK373
          refine wp_seq_k ?_; intro K374 hK374
          refine wp_region_lit ?_
          refine sA hS hR (Yld.move hS rfl) (by decide) ?_; clear hS; intro aa hS
          refine sA hS hR (Yld.not hS rfl) (by decide) ?_; clear hS; intro aa hS
          refine wpList_nil ?_
          refine hK374 _ _ ?_
          refine condF hS rfl ?_
          refine wp_skip ?_
          refine hK373 _ _ ?_
          refine wp_seq_k ?_; intro K375 hK375
          refine wp_region_lit ?_
          refine sA hS hR (Yld.move hS rfl) (by decide) ?_; clear hS; intro aa hS
          refine sA hS hR (Yld.move hS rfl) (by decide) ?_; clear hS; intro aa hS
          refine sB (Bcall hS rfl Try.call16 (At_okA (hR.pk (r := arena 57 60 _ _) (by repeat (first | with_reducible exact Pk.here | with_reducible apply Pk.there)))) (by decide) ?_); clear hS; intro aa ww vv hS hp
          clear hR
          obtain ⟨rfl, hR⟩ := hp
          unfold atV at hS
          first
            | have hat : ((Ar.new m).takes h).at s = some 0 := (tkn_at (by omega) (by omega) s 0).2 ⟨by omega, by omega, rfl⟩
            | have hat : ((Ar.new m).takes h).at s = none := by
                cases hx : ((Ar.new m).takes h).at s with
                | none => rfl
                | some v => exfalso; have h9 := (tkn_at (by omega) (by omega) s v).1 hx; omega
          refine sA hS hR (Yld.move hS rfl) (by decide) ?_; clear hS; intro aa hS
          refine sA hS hR (Yld.extract hS rfl rfl) (by decide) ?_; clear hS; intro aa hS
          refine sA hS hR (Yld.extract hS rfl rfl) (by decide) ?_; clear hS; intro aa hS
          replace hS := hS.sayB (t := 87) true rfl (by rw [hat]; rfl)
          refine sB (Balloc hS hR info29 (by rfl) (by rfl) (by decide) ?_); clear hS hR; intro aa ww bb14 hS hR
          refine sB (Bstore hS hR rfl rfl (by rfl) info29 (by rfl) (by repeat (first | with_reducible exact Pk.here | with_reducible apply Pk.there)) (by rfl) (Nat.le_of_ble_eq_true rfl) ?_); clear hR; intro ww hR
          refine sA hS hR (Yld.assign hS rfl) (by decide) ?_; clear hS; intro aa hS
          refine wpList_nil ?_
          refine hK375 _ _ ?_
          refine wp_seq_k ?_; intro K376 hK376
          refine wp_region_lit ?_
          refine sA hS hR (Yld.move hS rfl) (by decide) ?_; clear hS; intro aa hS
          refine sA hS hR (Yld.move hS rfl) (by decide) ?_; clear hS; intro aa hS
          refine sA hS hR (Yld.geq hS rfl rfl) (by decide) ?_; clear hS; intro aa hS
          replace hS := hS.sayB (t := 90) true rfl (by exact decide_eq_true (by omega))
          refine sA hS hR (Yld.move hS rfl) (by decide) ?_; clear hS; intro aa hS
          refine sAg hS hR rfl rfl (Yld.move hS rfl) (by decide) ?_; clear hS; intro aa hS
          refine sAg hS hR rfl rfl (Yld.move hS rfl) (by decide) ?_; clear hS; intro aa hS
          refine sAg hS hR rfl rfl ((by first | exact Yld.quo64 hS rfl rfl (by omega) | exact Yld.quo hS rfl rfl (by omega))) (by decide) ?_; clear hS; intro aa hS
          refine sAg hS hR rfl rfl (Yld.lss hS rfl rfl) (by decide) ?_; clear hS; intro aa hS
          replace hS := hS.sayB (t := 95) true rfl (by exact decide_eq_true (by omega))
          refine sA hS hR (Yld.pickT hS rfl rfl) (by decide) ?_; clear hS; intro aa hS
          refine sA hS hR (Yld.eqlB hS rfl rfl Try.underlying4) (by decide) ?_; clear hS; intro aa hS
          replace hS := hS.sayB (t := 97) true rfl (by rfl)
          refine sA hS hR (Yld.move hS rfl) (by decide) ?_; clear hS; intro aa hS
          refine sAg hS hR rfl rfl (Yld.move hS rfl) (by decide) ?_; clear hS; intro aa hS
          refine sAg hS hR rfl rfl (Yld.not hS rfl) (by decide) ?_; clear hS; intro aa hS
          refine sAg hS hR rfl rfl (Yld.move hS rfl) (by decide) ?_; clear hS; intro aa hS
          refine sAg hS hR rfl rfl (Yld.loadAgg hS rfl Try.underlying29 rfl info29 (by first | exact Rds.cons (Rd.blk (by repeat (first | with_reducible exact Pk.here | with_reducible apply Pk.there)) (by rfl)) (Rds.cons (Rd.blk (by repeat (first | with_reducible exact Pk.here | with_reducible apply Pk.there)) (by rfl)) (Rds.nil)) | exact Rds.rec (by repeat (first | with_reducible exact Pk.here | with_reducible apply Pk.there)) (by intro _; rfl) (by omega) | exact Rds.flat1 (by repeat (first | with_reducible exact Pk.here | with_reducible apply Pk.there)) (by intro _; rfl) (by omega)) (by rfl)) (by decide) ?_; clear hS; intro aa hS
          refine sAg hS hR rfl rfl (Yld.move hS rfl) (by decide) ?_; clear hS; intro aa hS
          refine sAg hS hR rfl rfl (Yld.build hS rfl (bld29_0 _)) (by decide) ?_; clear hS; intro aa hS
          refine sAg hS hR rfl rfl (Yld.binRun hS rfl rfl (eql29 _ _ _ _ _ _)) (by decide) ?_; clear hS; intro aa hS
          replace hS := hS.sayB (t := 105) true rfl (by rw [hat]; simp)
          refine sAg hS hR rfl rfl (Yld.pickF hS rfl rfl) (by decide) ?_; clear hS; intro aa hS
          refine sA hS hR (Yld.pickT hS rfl rfl) (by decide) ?_; clear hS; intro aa hS
          refine sA hS hR (Yld.move hS rfl) (by decide) ?_; clear hS; intro aa hS
          refine sBg hS rfl rfl (Bcall hS rfl Try.call12 (awake_ok hR) (by decide) ?_); clear hS; intro aa ww vv hS hp
          clear hR
          obtain ⟨rfl, hR⟩ := hp
          refine sA hS hR (Yld.pickT hS rfl rfl) (by decide) ?_; clear hS; intro aa hS
          refine sA hS hR (Yld.assign hS rfl) (by decide) ?_; clear hS; intro aa hS
          refine wpList_nil ?_
          refine hK376 _ _ ?_
          refine wp_ret ?_
          repeat (first | with_reducible refine thenR ?_ | with_reducible refine blockR ?_ | with_reducible refine scopeR ?_)
          refine ret1 (fn := Try.f4) (e := .ret) (.inl rfl) Try.results4 hS hR ⟨_, (.tmp rfl), ?_⟩
          exact ⟨rfl, (hR.sub (by repeat (first | with_reducible exact Ex.refl | (with_reducible apply Ex.take; · repeat (first | with_reducible exact Pk.here | with_reducible apply Pk.there)) | with_reducible apply Ex.drop)))⟩
        · intro hg hS
          refine sA hS hR (Yld.pickT hS rfl rfl) (by decide) ?_; clear hS; intro aa hS
          refine sA hS hR (Yld.assign hS rfl) (by decide) ?_; clear hS; intro aa hS
          refine wpList_nil ?_
          refine hK369 _ _ ?_
          refine wp_seq_k ?_; intro K377 hK377
          refine wp_seq_k ?_; intro K378 hK378
          refine wp_region_lit ?_
          refine sA hS hR (Yld.move hS rfl) (by decide) ?_; clear hS; intro aa hS
          refine sA hS hR (Yld.loadAgg hS rfl Try.underlying29 rfl info29 (by first | exact Rds.cons (Rd.blk (by repeat (first | with_reducible exact Pk.here | with_reducible apply Pk.there)) (by rfl)) (Rds.cons (Rd.blk (by repeat (first | with_reducible exact Pk.here | with_reducible apply Pk.there)) (by rfl)) (Rds.nil)) | exact Rds.rec (by repeat (first | with_reducible exact Pk.here | with_reducible apply Pk.there)) (by intro _; rfl) (by omega) | exact Rds.flat1 (by repeat (first | with_reducible exact Pk.here | with_reducible apply Pk.there)) (by intro _; rfl) (by omega)) (by rfl)) (by decide) ?_; clear hS; intro aa hS
          refine sB (Bcall hS rfl Try.call13 (Live_okA (hR.pk (r := arena 57 60 _ _) (by repeat (first | with_reducible exact Pk.here | with_reducible apply Pk.there)))) (by decide) ?_); clear hS; intro aa ww vv hS hp
          clear hR
          obtain ⟨rfl, hR⟩ := hp
          replace hS := hS.sayB (t := 55) false rfl (by exact decide_eq_false (fun e => by have h9 := (tkn_at (by omega) (by omega) s u).1 e; omega))
          refine sA hS hR (Yld.move hS rfl) (by decide) ?_; clear hS; intro aa hS
          refine sA hS hR (Yld.neqB hS rfl rfl Try.underlying4) (by decide) ?_; clear hS; intro aa hS
          replace hS := hS.sayB (t := 57) false rfl (by rfl)
          refine wpList_nil ?_
          refine hK378 _ _ ?_
          refine condF hS rfl ?_
          refine wp_skip ?_
          refine hK377 _ _ ?_
          refine wp_seq_k ?_; intro K379 hK379
          refine wp_region_lit ?_
          refine sA hS hR (Yld.move hS rfl) (by decide) ?_; clear hS; intro aa hS
          refine sB (Bcall hS rfl Try.call14 (Free_okA (hR.pk (r := arena 57 60 _ _) (by repeat (first | with_reducible exact Pk.here | with_reducible apply Pk.there)))) (by decide) ?_); clear hS; intro aa ww vv hS hp
          clear hR
          obtain ⟨rf, crf, rfl, hR⟩ := hp
          refine sA hS hR (Yld.move hS rfl) (by decide) ?_; clear hS; intro aa hS
          refine sB (Bcall hS rfl Try.call15 (Count_okA (hR.pk (r := arena 57 60 _ _) (by repeat (first | with_reducible exact Pk.here | with_reducible apply Pk.there)))) (by decide) ?_); clear hS; intro aa ww vv hS hp
          clear hR
          obtain ⟨rfl, hR⟩ := hp
          refine sA hS hR (Yld.assign hS rfl) (by decide) ?_; clear hS; intro aa hS
          refine sA hS hR (Yld.assign hS rfl) (by decide) ?_; clear hS; intro aa hS
          refine wpList_nil ?_
          refine hK379 _ _ ?_
          refine wp_seq_k ?_; intro K380 hK380
          refine wp_seq_k ?_; intro K381 hK381
          refine wp_region_lit ?_
          refine sA hS hR (Yld.move hS rfl) (by decide) ?_; clear hS; intro aa hS
          refine sA hS hR (Yld.not hS rfl) (by decide) ?_; clear hS; intro aa hS
          refine wpList_nil ?_
          refine hK381 _ _ ?_
          refine condT hS rfl ?_
          refine wp_seq_k ?_; intro K382 hK382
          refine wp_region_lit ?_
          refine sA hS hR (Yld.move hS rfl) (by decide) ?_; clear hS; intro aa hS
          refine sA hS hR (Yld.loadAgg hS rfl Try.underlying29 rfl info29 (by first | exact Rds.cons (Rd.blk (by repeat (first | with_reducible exact Pk.here | with_reducible apply Pk.there)) (by rfl)) (Rds.cons (Rd.blk (by repeat (first | with_reducible exact Pk.here | with_reducible apply Pk.there)) (by rfl)) (Rds.nil)) | exact Rds.rec (by repeat (first | with_reducible exact Pk.here | with_reducible apply Pk.there)) (by intro _; rfl) (by omega) | exact Rds.flat1 (by repeat (first | with_reducible exact Pk.here | with_reducible apply Pk.there)) (by intro _; rfl) (by omega)) (by rfl)) (by decide) ?_; clear hS; intro aa hS
          refine sB (Bcall hS rfl Try.call11 (Give_okA (hR.pk (r := arena 57 60 _ _) (by repeat (first | with_reducible exact Pk.here | with_reducible apply Pk.there)))) (by decide) ?_); clear hS; intro aa ww vv hS hp
          clear hR
          obtain ⟨rfl, hR⟩ := hp
          have hno : ¬ ((Ar.new m).takes h).at s = some u := fun e => by have h9 := (tkn_at (by omega) (by omega) s u).1 e; omega
          rw [giveE_no hno] at hS
          rw [Ar.giveH_no hno] at hR
          refine sA hS hR (Yld.neq hS rfl rfl) (by decide) ?_; clear hS; intro aa hS
          replace hS := hS.sayB (t := 67) false rfl (by simp)
          refine sA hS hR (Yld.move hS rfl) (by decide) ?_; clear hS; intro aa hS
          refine sAg hS hR rfl rfl (Yld.move hS rfl) (by decide) ?_; clear hS; intro aa hS
          refine sBg hS rfl rfl (Bcall hS rfl Try.call15 (Count_okA (hR.pk (r := arena 57 60 _ _) (by repeat (first | with_reducible exact Pk.here | with_reducible apply Pk.there)))) (by decide) ?_); clear hS; intro aa ww vv hS hp
          clear hR
          obtain ⟨rfl, hR⟩ := hp
          refine sAg hS hR rfl rfl (Yld.move hS rfl) (by decide) ?_; clear hS; intro aa hS
          refine sAg hS hR rfl rfl (Yld.neq hS rfl rfl) (by decide) ?_; clear hS; intro aa hS
          replace hS := hS.sayB (t := 72) false rfl (by simp)
          refine sA hS hR (Yld.pickF hS rfl rfl) (by decide) ?_; clear hS; intro aa hS
          refine sA hS hR (Yld.move hS rfl) (by decide) ?_; clear hS; intro aa hS
          refine sAg hS hR rfl rfl (Yld.move hS rfl) (by decide) ?_; clear hS; intro aa hS
          refine sBg hS rfl rfl (Bcall hS rfl Try.call14 (Free_okA (hR.pk (r := arena 57 60 _ _) (by repeat (first | with_reducible exact Pk.here | with_reducible apply Pk.there)))) (by decide) ?_); clear hS; intro aa ww vv hS hp
          clear hR
          obtain ⟨r, c, rfl, hR⟩ := hp
          refine sAg hS hR rfl rfl (Yld.len hS rfl Try.underlying36) (by decide) ?_; clear hS; intro aa hS
          refine sAg hS hR rfl rfl (Yld.move hS rfl) (by decide) ?_; clear hS; intro aa hS
          refine sAg hS hR rfl rfl (Yld.len hS rfl Try.underlying36) (by decide) ?_; clear hS; intro aa hS
          refine sAg hS hR rfl rfl (Yld.neq hS rfl rfl) (by decide) ?_; clear hS; intro aa hS
          replace hS := hS.sayB (t := 80) false rfl (by simp)
          refine sA hS hR (Yld.pickF hS rfl rfl) (by decide) ?_; clear hS; intro aa hS
          refine wpList_nil ?_
          refine hK382 _ _ ?_
          refine condF hS rfl ?_
          refine wp_skip ?_
          refine hK380 _ _ ?_
          refine wp_seq_k ?_; intro K383 hK383
          refine wp_region_lit ?_
          refine sA hS hR (Yld.move hS rfl) (by decide) ?_; clear hS; intro aa hS
          refine sA hS hR (Yld.move hS rfl) (by decide) ?_; clear hS; intro aa hS
          refine sB (Bcall hS rfl Try.call16 (At_okA (hR.pk (r := arena 57 60 _ _) (by repeat (first | with_reducible exact Pk.here | with_reducible apply Pk.there)))) (by decide) ?_); clear hS; intro aa ww vv hS hp
          clear hR
          obtain ⟨rfl, hR⟩ := hp
          unfold atV at hS
          first
            | have hat : ((Ar.new m).takes h).at s = some 0 := (tkn_at (by omega) (by omega) s 0).2 ⟨by omega, by omega, rfl⟩
            | have hat : ((Ar.new m).takes h).at s = none := by
                cases hx : ((Ar.new m).takes h).at s with
                | none => rfl
                | some v => exfalso; have h9 := (tkn_at (by omega) (by omega) s v).1 hx; omega
          refine sA hS hR (Yld.move hS rfl) (by decide) ?_; clear hS; intro aa hS
          refine sA hS hR (Yld.extract hS rfl rfl) (by decide) ?_; clear hS; intro aa hS
          refine sA hS hR (Yld.extract hS rfl rfl) (by decide) ?_; clear hS; intro aa hS
          replace hS := hS.sayB (t := 87) true rfl (by rw [hat]; rfl)
          refine sB (Balloc hS hR info29 (by rfl) (by rfl) (by decide) ?_); clear hS hR; intro aa ww bb14 hS hR
          refine sB (Bstore hS hR rfl rfl (by rfl) info29 (by rfl) (by repeat (first | with_reducible exact Pk.here | with_reducible apply Pk.there)) (by rfl) (Nat.le_of_ble_eq_true rfl) ?_); clear hR; intro ww hR
          refine sA hS hR (Yld.assign hS rfl) (by decide) ?_; clear hS; intro aa hS
          refine wpList_nil ?_
          refine hK383 _ _ ?_
          refine wp_seq_k ?_; intro K384 hK384
          refine wp_region_lit ?_
          refine sA hS hR (Yld.move hS rfl) (by decide) ?_; clear hS; intro aa hS
          refine sA hS hR (Yld.move hS rfl) (by decide) ?_; clear hS; intro aa hS
          refine sA hS hR (Yld.geq hS rfl rfl) (by decide) ?_; clear hS; intro aa hS
          replace hS := hS.sayB (t := 90) true rfl (by exact decide_eq_true (by omega))
          refine sA hS hR (Yld.move hS rfl) (by decide) ?_; clear hS; intro aa hS
          refine sAg hS hR rfl rfl (Yld.move hS rfl) (by decide) ?_; clear hS; intro aa hS
          refine sAg hS hR rfl rfl (Yld.move hS rfl) (by decide) ?_; clear hS; intro aa hS
          refine sAg hS hR rfl rfl ((by first | exact Yld.quo64 hS rfl rfl (by omega) | exact Yld.quo hS rfl rfl (by omega))) (by decide) ?_; clear hS; intro aa hS
          refine sAg hS hR rfl rfl (Yld.lss hS rfl rfl) (by decide) ?_; clear hS; intro aa hS
          replace hS := hS.sayB (t := 95) true rfl (by exact decide_eq_true (by omega))
          refine sA hS hR (Yld.pickT hS rfl rfl) (by decide) ?_; clear hS; intro aa hS
          refine sA hS hR (Yld.eqlB hS rfl rfl Try.underlying4) (by decide) ?_; clear hS; intro aa hS
          replace hS := hS.sayB (t := 97) true rfl (by rfl)
          refine sA hS hR (Yld.move hS rfl) (by decide) ?_; clear hS; intro aa hS
          refine sAg hS hR rfl rfl (Yld.move hS rfl) (by decide) ?_; clear hS; intro aa hS
          refine sAg hS hR rfl rfl (Yld.not hS rfl) (by decide) ?_; clear hS; intro aa hS
          refine sAg hS hR rfl rfl (Yld.move hS rfl) (by decide) ?_; clear hS; intro aa hS
          refine sAg hS hR rfl rfl (Yld.loadAgg hS rfl Try.underlying29 rfl info29 (by first | exact Rds.cons (Rd.blk (by repeat (first | with_reducible exact Pk.here | with_reducible apply Pk.there)) (by rfl)) (Rds.cons (Rd.blk (by repeat (first | with_reducible exact Pk.here | with_reducible apply Pk.there)) (by rfl)) (Rds.nil)) | exact Rds.rec (by repeat (first | with_reducible exact Pk.here | with_reducible apply Pk.there)) (by intro _; rfl) (by omega) | exact Rds.flat1 (by repeat (first | with_reducible exact Pk.here | with_reducible apply Pk.there)) (by intro _; rfl) (by omega)) (by rfl)) (by decide) ?_; clear hS; intro aa hS
          refine sAg hS hR rfl rfl (Yld.move hS rfl) (by decide) ?_; clear hS; intro aa hS
          refine sAg hS hR rfl rfl (Yld.build hS rfl (bld29_0 _)) (by decide) ?_; clear hS; intro aa hS
          refine sAg hS hR rfl rfl (Yld.binRun hS rfl rfl (eql29 _ _ _ _ _ _)) (by decide) ?_; clear hS; intro aa hS
          replace hS := hS.sayB (t := 105) true rfl (by rw [hat]; simp)
          refine sAg hS hR rfl rfl (Yld.pickF hS rfl rfl) (by decide) ?_; clear hS; intro aa hS
          refine sA hS hR (Yld.pickT hS rfl rfl) (by decide) ?_; clear hS; intro aa hS
          refine sA hS hR (Yld.move hS rfl) (by decide) ?_; clear hS; intro aa hS
          refine sBg hS rfl rfl (Bcall hS rfl Try.call12 (awake_ok hR) (by decide) ?_); clear hS; intro aa ww vv hS hp
          clear hR
          obtain ⟨rfl, hR⟩ := hp
          refine sA hS hR (Yld.pickT hS rfl rfl) (by decide) ?_; clear hS; intro aa hS
          refine sA hS hR (Yld.assign hS rfl) (by decide) ?_; clear hS; intro aa hS
          refine wpList_nil ?_
          refine hK384 _ _ ?_
          refine wp_ret ?_
          repeat (first | with_reducible refine thenR ?_ | with_reducible refine blockR ?_ | with_reducible refine scopeR ?_)
          refine ret1 (fn := Try.f4) (e := .ret) (.inl rfl) Try.results4 hS hR ⟨_, (.tmp rfl), ?_⟩
          exact ⟨rfl, (hR.sub (by repeat (first | with_reducible exact Ex.refl | (with_reducible apply Ex.take; · repeat (first | with_reducible exact Pk.here | with_reducible apply Pk.there)) | with_reducible apply Ex.drop)))⟩
      · intro hg hS
        refine sSkip hS rfl rfl rfl (by decide) ?_; clear hS; intro aa hS
        refine sSkip hS rfl rfl rfl (by decide) ?_; clear hS; intro aa hS
        refine sA hS hR (Yld.pickF hS rfl rfl) (by decide) ?_; clear hS; intro aa hS
        refine sA hS hR (Yld.assign hS rfl) (by decide) ?_; clear hS; intro aa hS
        refine wpList_nil ?_
        refine hK369 _ _ ?_
        refine wp_seq_k ?_; intro K385 hK385
        refine wp_seq_k ?_; intro K386 hK386
        refine wp_region_lit ?_
        refine sA hS hR (Yld.move hS rfl) (by decide) ?_; clear hS; intro aa hS
        refine sA hS hR (Yld.loadAgg hS rfl Try.underlying29 rfl info29 (by first | exact Rds.cons (Rd.blk (by repeat (first | with_reducible exact Pk.here | with_reducible apply Pk.there)) (by rfl)) (Rds.cons (Rd.blk (by repeat (first | with_reducible exact Pk.here | with_reducible apply Pk.there)) (by rfl)) (Rds.nil)) | exact Rds.rec (by repeat (first | with_reducible exact Pk.here | with_reducible apply Pk.there)) (by intro _; rfl) (by omega) | exact Rds.flat1 (by repeat (first | with_reducible exact Pk.here | with_reducible apply Pk.there)) (by intro _; rfl) (by omega)) (by rfl)) (by decide) ?_; clear hS; intro aa hS
        refine sB (Bcall hS rfl Try.call13 (Live_okA (hR.pk (r := arena 57 60 _ _) (by repeat (first | with_reducible exact Pk.here | with_reducible apply Pk.there)))) (by decide) ?_); clear hS; intro aa ww vv hS hp
        clear hR
        obtain ⟨rfl, hR⟩ := hp
        replace hS := hS.sayB (t := 55) false rfl (by exact decide_eq_false (fun e => by have h9 := (tkn_at (by omega) (by omega) s u).1 e; omega))
        refine sA hS hR (Yld.move hS rfl) (by decide) ?_; clear hS; intro aa hS
        refine sA hS hR (Yld.neqB hS rfl rfl Try.underlying4) (by decide) ?_; clear hS; intro aa hS
        replace hS := hS.sayB (t := 57) false rfl (by rfl)
        refine wpList_nil ?_
        refine hK386 _ _ ?_
        refine condF hS rfl ?_
        refine wp_skip ?_
        refine hK385 _ _ ?_
        refine wp_seq_k ?_; intro K387 hK387
        refine wp_region_lit ?_
        refine sA hS hR (Yld.move hS rfl) (by decide) ?_; clear hS; intro aa hS
        refine sB (Bcall hS rfl Try.call14 (Free_okA (hR.pk (r := arena 57 60 _ _) (by repeat (first | with_reducible exact Pk.here | with_reducible apply Pk.there)))) (by decide) ?_); clear hS; intro aa ww vv hS hp
        clear hR
        obtain ⟨rf, crf, rfl, hR⟩ := hp
        refine sA hS hR (Yld.move hS rfl) (by decide) ?_; clear hS; intro aa hS
        refine sB (Bcall hS rfl Try.call15 (Count_okA (hR.pk (r := arena 57 60 _ _) (by repeat (first | with_reducible exact Pk.here | with_reducible apply Pk.there)))) (by decide) ?_); clear hS; intro aa ww vv hS hp
        clear hR
        obtain ⟨rfl, hR⟩ := hp
        refine sA hS hR (Yld.assign hS rfl) (by decide) ?_; clear hS; intro aa hS
        refine sA hS hR (Yld.assign hS rfl) (by decide) ?_; clear hS; intro aa hS
        refine wpList_nil ?_
        refine hK387 _ _ ?_
        refine wp_seq_k ?_; intro K388 hK388
        refine wp_seq_k ?_; intro K389 hK389
        refine wp_region_lit ?_
        refine sA hS hR (Yld.move hS rfl) (by decide) ?_; clear hS; intro aa hS
        refine sA hS hR (Yld.not hS rfl) (by decide) ?_; clear hS; intro aa hS
        refine wpList_nil ?_
        refine hK389 _ _ ?_
        refine condT hS rfl ?_
        refine wp_seq_k ?_; intro K390 hK390
        refine wp_region_lit ?_
        refine sA hS hR (Yld.move hS rfl) (by decide) ?_; clear hS; intro aa hS
        refine sA hS hR (Yld.loadAgg hS rfl Try.underlying29 rfl info29 (by first | exact Rds.cons (Rd.blk (by repeat (first | with_reducible exact Pk.here | with_reducible apply Pk.there)) (by rfl)) (Rds.cons (Rd.blk (by repeat (first | with_reducible exact Pk.here | with_reducible apply Pk.there)) (by rfl)) (Rds.nil)) | exact Rds.rec (by repeat (first | with_reducible exact Pk.here | with_reducible apply Pk.there)) (by intro _; rfl) (by omega) | exact Rds.flat1 (by repeat (first | with_reducible exact Pk.here | with_reducible apply Pk.there)) (by intro _; rfl) (by omega)) (by rfl)) (by decide) ?_; clear hS; intro aa hS
        refine sB (Bcall hS rfl Try.call11 (Give_okA (hR.pk (r := arena 57 60 _ _) (by repeat (first | with_reducible exact Pk.here | with_reducible apply Pk.there)))) (by decide) ?_); clear hS; intro aa ww vv hS hp
        clear hR
        obtain ⟨rfl, hR⟩ := hp
        have hno : ¬ ((Ar.new m).takes h).at s = some u := fun e => by have h9 := (tkn_at (by omega) (by omega) s u).1 e; omega
        rw [giveE_no hno] at hS
        rw [Ar.giveH_no hno] at hR
        refine sA hS hR (Yld.neq hS rfl rfl) (by decide) ?_; clear hS; intro aa hS
        replace hS := hS.sayB (t := 67) false rfl (by simp)
        refine sA hS hR (Yld.move hS rfl) (by decide) ?_; clear hS; intro aa hS
        refine sAg hS hR rfl rfl (Yld.move hS rfl) (by decide) ?_; clear hS; intro aa hS
        refine sBg hS rfl rfl (Bcall hS rfl Try.call15 (Count_okA (hR.pk (r := arena 57 60 _ _) (by repeat (first | with_reducible exact Pk.here | with_reducible apply Pk.there)))) (by decide) ?_); clear hS; intro aa ww vv hS hp
        clear hR
        obtain ⟨rfl, hR⟩ := hp
        refine sAg hS hR rfl rfl (Yld.move hS rfl) (by decide) ?_; clear hS; intro aa hS
        refine sAg hS hR rfl rfl (Yld.neq hS rfl rfl) (by decide) ?_; clear hS; intro aa hS
        replace hS := hS.sayB (t := 72) false rfl (by simp)
        refine sA hS hR (Yld.pickF hS rfl rfl) (by decide) ?_; clear hS; intro aa hS
        refine sA hS hR (Yld.move hS rfl) (by decide) ?_; clear hS; intro aa hS
        refine sAg hS hR rfl rfl (Yld.move hS rfl) (by decide) ?_; clear hS; intro aa hS
        refine sBg hS rfl rfl (Bcall hS rfl Try.call14 (Free_okA (hR.pk (r := arena 57 60 _ _) (by repeat (first | with_reducible exact Pk.here | with_reducible apply Pk.there)))) (by decide) ?_); clear hS; intro aa ww vv hS hp
        clear hR
        obtain ⟨r, c, rfl, hR⟩ := hp
        refine sAg hS hR rfl rfl (Yld.len hS rfl Try.underlying36) (by decide) ?_; clear hS; intro aa hS
        refine sAg hS hR rfl rfl (Yld.move hS rfl) (by decide) ?_; clear hS; intro aa hS
        refine sAg hS hR rfl rfl (Yld.len hS rfl Try.underlying36) (by decide) ?_; clear hS; intro aa hS
        refine sAg hS hR rfl rfl (Yld.neq hS rfl rfl) (by decide) ?_; clear hS; intro aa hS
        replace hS := hS.sayB (t := 80) false rfl (by simp)
        refine sA hS hR (Yld.pickF hS rfl rfl) (by decide) ?_; clear hS; intro aa hS
        refine wpList_nil ?_
        refine hK390 _ _ ?_
        refine condF hS rfl ?_
        refine wp_skip ?_
        refine hK388 _ _ ?_
        refine wp_seq_k ?_; intro K391 hK391
        refine wp_region_lit ?_
        refine sA hS hR (Yld.move hS rfl) (by decide) ?_; clear hS; intro aa hS
        refine sA hS hR (Yld.move hS rfl) (by decide) ?_; clear hS; intro aa hS
        refine sB (Bcall hS rfl Try.call16 (At_okA (hR.pk (r := arena 57 60 _ _) (by repeat (first | with_reducible exact Pk.here | with_reducible apply Pk.there)))) (by decide) ?_); clear hS; intro aa ww vv hS hp
        clear hR
        obtain ⟨rfl, hR⟩ := hp
        unfold atV at hS
        first
          | have hat : ((Ar.new m).takes h).at s = some 0 := (tkn_at (by omega) (by omega) s 0).2 ⟨by omega, by omega, rfl⟩
          | have hat : ((Ar.new m).takes h).at s = none := by
              cases hx : ((Ar.new m).takes h).at s with
              | none => rfl
              | some v => exfalso; have h9 := (tkn_at (by omega) (by omega) s v).1 hx; omega
        refine sA hS hR (Yld.move hS rfl) (by decide) ?_; clear hS; intro aa hS
        refine sA hS hR (Yld.extract hS rfl rfl) (by decide) ?_; clear hS; intro aa hS
        refine sA hS hR (Yld.extract hS rfl rfl) (by decide) ?_; clear hS; intro aa hS
        replace hS := hS.sayB (t := 87) false rfl (by rw [hat]; rfl)
        refine sB (Balloc hS hR info29 (by rfl) (by rfl) (by decide) ?_); clear hS hR; intro aa ww bb14 hS hR
        refine sB (Bstore hS hR rfl rfl (by rfl) info29 (by rfl) (by repeat (first | with_reducible exact Pk.here | with_reducible apply Pk.there)) (by rfl) (Nat.le_of_ble_eq_true rfl) ?_); clear hR; intro ww hR
        refine sA hS hR (Yld.assign hS rfl) (by decide) ?_; clear hS; intro aa hS
        refine wpList_nil ?_
        refine hK391 _ _ ?_
        refine wp_seq_k ?_; intro K392 hK392
        refine wp_region_lit ?_
        refine sA hS hR (Yld.move hS rfl) (by decide) ?_; clear hS; intro aa hS
        refine sA hS hR (Yld.move hS rfl) (by decide) ?_; clear hS; intro aa hS
        refine sA hS hR (Yld.geq hS rfl rfl) (by decide) ?_; clear hS; intro aa hS
        replace hS := hS.sayB (t := 90) true rfl (by exact decide_eq_true (by omega))
        refine sA hS hR (Yld.move hS rfl) (by decide) ?_; clear hS; intro aa hS
        refine sAg hS hR rfl rfl (Yld.move hS rfl) (by decide) ?_; clear hS; intro aa hS
        refine sAg hS hR rfl rfl (Yld.move hS rfl) (by decide) ?_; clear hS; intro aa hS
        refine sAg hS hR rfl rfl ((by first | exact Yld.quo64 hS rfl rfl (by omega) | exact Yld.quo hS rfl rfl (by omega))) (by decide) ?_; clear hS; intro aa hS
        refine sAg hS hR rfl rfl (Yld.lss hS rfl rfl) (by decide) ?_; clear hS; intro aa hS
        replace hS := hS.sayB (t := 95) false rfl (by exact decide_eq_false (by omega))
        refine sA hS hR (Yld.pickT hS rfl rfl) (by decide) ?_; clear hS; intro aa hS
        refine sA hS hR (Yld.eqlB hS rfl rfl Try.underlying4) (by decide) ?_; clear hS; intro aa hS
        replace hS := hS.sayB (t := 97) true rfl (by rfl)
        refine sA hS hR (Yld.move hS rfl) (by decide) ?_; clear hS; intro aa hS
        refine sAg hS hR rfl rfl (Yld.move hS rfl) (by decide) ?_; clear hS; intro aa hS
        refine sAg hS hR rfl rfl (Yld.not hS rfl) (by decide) ?_; clear hS; intro aa hS
        refine sAg hS hR rfl rfl (Yld.move hS rfl) (by decide) ?_; clear hS; intro aa hS
        refine sSkip hS rfl rfl rfl (by decide) ?_; clear hS; intro aa hS
        refine sSkip hS rfl rfl rfl (by decide) ?_; clear hS; intro aa hS
        refine sSkip hS rfl rfl rfl (by decide) ?_; clear hS; intro aa hS
        refine sSkip hS rfl rfl rfl (by decide) ?_; clear hS; intro aa hS
        refine sAg hS hR rfl rfl (Yld.pickT hS rfl rfl) (by decide) ?_; clear hS; intro aa hS
        refine sA hS hR (Yld.pickT hS rfl rfl) (by decide) ?_; clear hS; intro aa hS
        refine sA hS hR (Yld.move hS rfl) (by decide) ?_; clear hS; intro aa hS
        refine sBg hS rfl rfl (Bcall hS rfl Try.call12 (awake_ok hR) (by decide) ?_); clear hS; intro aa ww vv hS hp
        clear hR
        obtain ⟨rfl, hR⟩ := hp
        refine sA hS hR (Yld.pickT hS rfl rfl) (by decide) ?_; clear hS; intro aa hS
        refine sA hS hR (Yld.assign hS rfl) (by decide) ?_; clear hS; intro aa hS
        refine wpList_nil ?_
        refine hK392 _ _ ?_
        refine wp_ret ?_
        repeat (first | with_reducible refine thenR ?_ | with_reducible refine blockR ?_ | with_reducible refine scopeR ?_)
        refine ret1 (fn := Try.f4) (e := .ret) (.inl rfl) Try.results4 hS hR ⟨_, (.tmp rfl), ?_⟩
        exact ⟨rfl, (hR.sub (by repeat (first | with_reducible exact Ex.refl | (with_reducible apply Ex.take; · repeat (first | with_reducible exact Pk.here | with_reducible apply Pk.there)) | with_reducible apply Ex.drop)))⟩
    · intro hg hS
      refine sSkip hS rfl rfl rfl (by decide) ?_; clear hS; intro aa hS
      refine sSkip hS rfl rfl rfl (by decide) ?_; clear hS; intro aa hS
      refine sSkip hS rfl rfl rfl (by decide) ?_; clear hS; intro aa hS
      refine sSkip hS rfl rfl rfl (by decide) ?_; clear hS; intro aa hS
      refine sA hS hR (Yld.pickF hS rfl rfl) (by decide) ?_; clear hS; intro aa hS
      refine sA hS hR (Yld.move hS rfl) (by decide) ?_; clear hS; intro aa hS
      refine sSkip hS rfl rfl rfl (by decide) ?_; clear hS; intro aa hS
      refine sSkip hS rfl rfl rfl (by decide) ?_; clear hS; intro aa hS
      refine sA hS hR (Yld.pickF hS rfl rfl) (by decide) ?_; clear hS; intro aa hS
      refine sA hS hR (Yld.assign hS rfl) (by decide) ?_; clear hS; intro aa hS
      refine wpList_nil ?_
      refine hK369 _ _ ?_
      refine wp_seq_k ?_; intro K393 hK393
      refine wp_seq_k ?_; intro K394 hK394
      refine wp_region_lit ?_
      refine sA hS hR (Yld.move hS rfl) (by decide) ?_; clear hS; intro aa hS
      refine sA hS hR (Yld.loadAgg hS rfl Try.underlying29 rfl info29 (by first | exact Rds.cons (Rd.blk (by repeat (first | with_reducible exact Pk.here | with_reducible apply Pk.there)) (by rfl)) (Rds.cons (Rd.blk (by repeat (first | with_reducible exact Pk.here | with_reducible apply Pk.there)) (by rfl)) (Rds.nil)) | exact Rds.rec (by repeat (first | with_reducible exact Pk.here | with_reducible apply Pk.there)) (by intro _; rfl) (by omega) | exact Rds.flat1 (by repeat (first | with_reducible exact Pk.here | with_reducible apply Pk.there)) (by intro _; rfl) (by omega)) (by rfl)) (by decide) ?_; clear hS; intro aa hS
      refine sB (Bcall hS rfl Try.call13 (Live_okA (hR.pk (r := arena 57 60 _ _) (by repeat (first | with_reducible exact Pk.here | with_reducible apply Pk.there)))) (by decide) ?_); clear hS; intro aa ww vv hS hp
      clear hR
      obtain ⟨rfl, hR⟩ := hp
      replace hS := hS.sayB (t := 55) false rfl (by exact decide_eq_false (fun e => by have h9 := (tkn_at (by omega) (by omega) s u).1 e; omega))
      refine sA hS hR (Yld.move hS rfl) (by decide) ?_; clear hS; intro aa hS
      refine sA hS hR (Yld.neqB hS rfl rfl Try.underlying4) (by decide) ?_; clear hS; intro aa hS
      replace hS := hS.sayB (t := 57) false rfl (by rfl)
      refine wpList_nil ?_
      refine hK394 _ _ ?_
      refine condF hS rfl ?_
      refine wp_skip ?_
      refine hK393 _ _ ?_
      refine wp_seq_k ?_; intro K395 hK395
      refine wp_region_lit ?_
      refine sA hS hR (Yld.move hS rfl) (by decide) ?_; clear hS; intro aa hS
      refine sB (Bcall hS rfl Try.call14 (Free_okA (hR.pk (r := arena 57 60 _ _) (by repeat (first | with_reducible exact Pk.here | with_reducible apply Pk.there)))) (by decide) ?_); clear hS; intro aa ww vv hS hp
      clear hR
      obtain ⟨rf, crf, rfl, hR⟩ := hp
      refine sA hS hR (Yld.move hS rfl) (by decide) ?_; clear hS; intro aa hS
      refine sB (Bcall hS rfl Try.call15 (Count_okA (hR.pk (r := arena 57 60 _ _) (by repeat (first | with_reducible exact Pk.here | with_reducible apply Pk.there)))) (by decide) ?_); clear hS; intro aa ww vv hS hp
      clear hR
      obtain ⟨rfl, hR⟩ := hp
      refine sA hS hR (Yld.assign hS rfl) (by decide) ?_; clear hS; intro aa hS
      refine sA hS hR (Yld.assign hS rfl) (by decide) ?_; clear hS; intro aa hS
      refine wpList_nil ?_
      refine hK395 _ _ ?_
      refine wp_seq_k ?_; intro K396 hK396
      refine wp_seq_k ?_; intro K397 hK397
      refine wp_region_lit ?_
      refine sA hS hR (Yld.move hS rfl) (by decide) ?_; clear hS; intro aa hS
      refine sA hS hR (Yld.not hS rfl) (by decide) ?_; clear hS; intro aa hS
      refine wpList_nil ?_
      refine hK397 _ _ ?_
      refine condT hS rfl ?_
      refine wp_seq_k ?_; intro K398 hK398
      refine wp_region_lit ?_
      refine sA hS hR (Yld.move hS rfl) (by decide) ?_; clear hS; intro aa hS
      refine sA hS hR (Yld.loadAgg hS rfl Try.underlying29 rfl info29 (by first | exact Rds.cons (Rd.blk (by repeat (first | with_reducible exact Pk.here | with_reducible apply Pk.there)) (by rfl)) (Rds.cons (Rd.blk (by repeat (first | with_reducible exact Pk.here | with_reducible apply Pk.there)) (by rfl)) (Rds.nil)) | exact Rds.rec (by repeat (first | with_reducible exact Pk.here | with_reducible apply Pk.there)) (by intro _; rfl) (by omega) | exact Rds.flat1 (by repeat (first | with_reducible exact Pk.here | with_reducible apply Pk.there)) (by intro _; rfl) (by omega)) (by rfl)) (by decide) ?_; clear hS; intro aa hS
      refine sB (Bcall hS rfl Try.call11 (Give_okA (hR.pk (r := arena 57 60 _ _) (by repeat (first | with_reducible exact Pk.here | with_reducible apply Pk.there)))) (by decide) ?_); clear hS; intro aa ww vv hS hp
      clear hR
      obtain ⟨rfl, hR⟩ := hp
      have hno : ¬ ((Ar.new m).takes h).at s = some u := fun e => by have h9 := (tkn_at (by omega) (by omega) s u).1 e; omega
      rw [giveE_no hno] at hS
      rw [Ar.giveH_no hno] at hR
      refine sA hS hR (Yld.neq hS rfl rfl) (by decide) ?_; clear hS; intro aa hS
      replace hS := hS.sayB (t := 67) false rfl (by simp)
      refine sA hS hR (Yld.move hS rfl) (by decide) ?_; clear hS; intro aa hS
      refine sAg hS hR rfl rfl (Yld.move hS rfl) (by decide) ?_; clear hS; intro aa hS
      refine sBg hS rfl rfl (Bcall hS rfl Try.call15 (Count_okA (hR.pk (r := arena 57 60 _ _) (by repeat (first | with_reducible exact Pk.here | with_reducible apply Pk.there)))) (by decide) ?_); clear hS; intro aa ww vv hS hp
      clear hR
      obtain ⟨rfl, hR⟩ := hp
      refine sAg hS hR rfl rfl (Yld.move hS rfl) (by decide) ?_; clear hS; intro aa hS
      refine sAg hS hR rfl rfl (Yld.neq hS rfl rfl) (by decide) ?_; clear hS; intro aa hS
      replace hS := hS.sayB (t := 72) false rfl (by simp)
      refine sA hS hR (Yld.pickF hS rfl rfl) (by decide) ?_; clear hS; intro aa hS
      refine sA hS hR (Yld.move hS rfl) (by decide) ?_; clear hS; intro aa hS
      refine sAg hS hR rfl rfl (Yld.move hS rfl) (by decide) ?_; clear hS; intro aa hS
      refine sBg hS rfl rfl (Bcall hS rfl Try.call14 (Free_okA (hR.pk (r := arena 57 60 _ _) (by repeat (first | with_reducible exact Pk.here | with_reducible apply Pk.there)))) (by decide) ?_); clear hS; intro aa ww vv hS hp
      clear hR
      obtain ⟨r, c, rfl, hR⟩ := hp
      refine sAg hS hR rfl rfl (Yld.len hS rfl Try.underlying36) (by decide) ?_; clear hS; intro aa hS
      refine sAg hS hR rfl rfl (Yld.move hS rfl) (by decide) ?_; clear hS; intro aa hS
      refine sAg hS hR rfl rfl (Yld.len hS rfl Try.underlying36) (by decide) ?_; clear hS; intro aa hS
      refine sAg hS hR rfl rfl (Yld.neq hS rfl rfl) (by decide) ?_; clear hS; intro aa hS
      replace hS := hS.sayB (t := 80) false rfl (by simp)
      refine sA hS hR (Yld.pickF hS rfl rfl) (by decide) ?_; clear hS; intro aa hS
      refine wpList_nil ?_
      refine hK398 _ _ ?_
      refine condF hS rfl ?_
      refine wp_skip ?_
      refine hK396 _ _ ?_
      refine wp_seq_k ?_; intro K399 hK399
      refine wp_region_lit ?_
      refine sA hS hR (Yld.move hS rfl) (by decide) ?_; clear hS; intro aa hS
      refine sA hS hR (Yld.move hS rfl) (by decide) ?_; clear hS; intro aa hS
      refine sB (Bcall hS rfl Try.call16 (At_okA (hR.pk (r := arena 57 60 _ _) (by repeat (first | with_reducible exact Pk.here | with_reducible apply Pk.there)))) (by decide) ?_); clear hS; intro aa ww vv hS hp
      clear hR
      obtain ⟨rfl, hR⟩ := hp
      unfold atV at hS
      first
        | have hat : ((Ar.new m).takes h).at s = some 0 := (tkn_at (by omega) (by omega) s 0).2 ⟨by omega, by omega, rfl⟩
        | have hat : ((Ar.new m).takes h).at s = none := by
            cases hx : ((Ar.new m).takes h).at s with
            | none => rfl
            | some v => exfalso; have h9 := (tkn_at (by omega) (by omega) s v).1 hx; omega
      refine sA hS hR (Yld.move hS rfl) (by decide) ?_; clear hS; intro aa hS
      refine sA hS hR (Yld.extract hS rfl rfl) (by decide) ?_; clear hS; intro aa hS
      refine sA hS hR (Yld.extract hS rfl rfl) (by decide) ?_; clear hS; intro aa hS
      replace hS := hS.sayB (t := 87) false rfl (by rw [hat]; rfl)
      refine sB (Balloc hS hR info29 (by rfl) (by rfl) (by decide) ?_); clear hS hR; intro aa ww bb14 hS hR
      refine sB (Bstore hS hR rfl rfl (by rfl) info29 (by rfl) (by repeat (first | with_reducible exact Pk.here | with_reducible apply Pk.there)) (by rfl) (Nat.le_of_ble_eq_true rfl) ?_); clear hR; intro ww hR
      refine sA hS hR (Yld.assign hS rfl) (by decide) ?_; clear hS; intro aa hS
      refine wpList_nil ?_
      refine hK399 _ _ ?_
      refine wp_seq_k ?_; intro K400 hK400
      refine wp_region_lit ?_
      refine sA hS hR (Yld.move hS rfl) (by decide) ?_; clear hS; intro aa hS
      refine sA hS hR (Yld.move hS rfl) (by decide) ?_; clear hS; intro aa hS
      refine sA hS hR (Yld.geq hS rfl rfl) (by decide) ?_; clear hS; intro aa hS
      replace hS := hS.sayB (t := 90) false rfl (by exact decide_eq_false (by omega))
      refine sA hS hR (Yld.move hS rfl) (by decide) ?_; clear hS; intro aa hS
      refine sSkip hS rfl rfl rfl (by decide) ?_; clear hS; intro aa hS
      refine sSkip hS rfl rfl rfl (by decide) ?_; clear hS; intro aa hS
      refine sSkip hS rfl rfl rfl (by decide) ?_; clear hS; intro aa hS
      refine sSkip hS rfl rfl rfl (by decide) ?_; clear hS; intro aa hS
      refine sA hS hR (Yld.pickF hS rfl rfl) (by decide) ?_; clear hS; intro aa hS
      refine sA hS hR (Yld.eqlB hS rfl rfl Try.underlying4) (by decide) ?_; clear hS; intro aa hS
      replace hS := hS.sayB (t := 97) true rfl (by rfl)
      refine sA hS hR (Yld.move hS rfl) (by decide) ?_; clear hS; intro aa hS
      refine sAg hS hR rfl rfl (Yld.move hS rfl) (by decide) ?_; clear hS; intro aa hS
      refine sAg hS hR rfl rfl (Yld.not hS rfl) (by decide) ?_; clear hS; intro aa hS
      refine sAg hS hR rfl rfl (Yld.move hS rfl) (by decide) ?_; clear hS; intro aa hS
      refine sSkip hS rfl rfl rfl (by decide) ?_; clear hS; intro aa hS
      refine sSkip hS rfl rfl rfl (by decide) ?_; clear hS; intro aa hS
      refine sSkip hS rfl rfl rfl (by decide) ?_; clear hS; intro aa hS
      refine sSkip hS rfl rfl rfl (by decide) ?_; clear hS; intro aa hS
      refine sAg hS hR rfl rfl (Yld.pickT hS rfl rfl) (by decide) ?_; clear hS; intro aa hS
      refine sA hS hR (Yld.pickT hS rfl rfl) (by decide) ?_; clear hS; intro aa hS
      refine sA hS hR (Yld.move hS rfl) (by decide) ?_; clear hS; intro aa hS
      refine sBg hS rfl rfl (Bcall hS rfl Try.call12 (awake_ok hR) (by decide) ?_); clear hS; intro aa ww vv hS hp
      clear hR
      obtain ⟨rfl, hR⟩ := hp
      refine sA hS hR (Yld.pickT hS rfl rfl) (by decide) ?_; clear hS; intro aa hS
      refine sA hS hR (Yld.assign hS rfl) (by decide) ?_; clear hS; intro aa hS
      refine wpList_nil ?_
      refine hK400 _ _ ?_
      refine wp_ret ?_
      repeat (first | with_reducible refine thenR ?_ | with_reducible refine blockR ?_ | with_reducible refine scopeR ?_)
      refine ret1 (fn := Try.f4) (e := .ret) (.inl rfl) Try.results4 hS hR ⟨_, (.tmp rfl), ?_⟩
      exact ⟨rfl, (hR.sub (by repeat (first | with_reducible exact Ex.refl | (with_reducible apply Ex.take; · repeat (first | with_reducible exact Pk.here | with_reducible apply Pk.there)) | with_reducible apply Ex.drop)))⟩
set_option maxHeartbeats 4000000 in
set_option maxRecDepth 20000 in
theorem ArenaClear_ok {W : World} {a b0 : Int} {q : Option Addr} {n c : Nat} {xs : List (List Int)} (A1 : ArgS W [.u8] q n c xs) {l : List HP} {w : World} (hR : Sep (old W :: l) w) (ha : 0 ≤ a ∧ a ≤ 255) (hb0 : 0 ≤ b0 ∧ b0 ≤ 255) : CallR Try.prog 6 [.int .u8 a, .int .u8 b0, .slice q n c] w (fun v w' => v = .bool true ∧ Sep (old W :: l) w') := by
  refine enter Try.func6 rfl Try.ntmps6 (Nat.le_of_ble_eq_true rfl) ?_; intro aa hS
  have hcap := A1.cap
  refine wp_seq_k ?_; intro K401 hK401
  refine wp_region_lit ?_
  refine sA hS hR (Yld.assign hS rfl) (by decide) ?_; clear hS; intro aa hS
  refine wpList_nil ?_
  refine hK401 _ _ ?_
  refine wp_seq_k ?_; intro K402 hK402
  refine wp_region_lit ?_
  refine sA hS hR (Yld.move hS rfl) (by decide) ?_; clear hS; intro aa hS
  refine sA hS hR ((by first | exact Yld.to (Yld.convInt hS rfl rfl Try.underlying3) (congrArg (Value.int .i64) (IntWalk.i64_in _ (by omega))) | exact Yld.convInt hS rfl rfl Try.underlying3)) (by decide) ?_; clear hS; intro aa hS
  refine sA hS hR ((by first | exact Yld.rem64 hS rfl rfl (by omega) | exact Yld.rem hS rfl rfl (by omega))) (by decide) ?_; clear hS; intro aa hS
  refine sA hS hR ((by first | exact Yld.add64 hS rfl rfl (by omega) | exact Yld.add hS rfl rfl)) (by decide) ?_; clear hS; intro aa hS
  obtain ⟨m, hm, bm⟩ : ∃ y : Nat, 1 + a % 16 = (y : Int) ∧ 1 ≤ y ∧ y ≤ 16 := ⟨(1 + a % 16).toNat, by omega, by omega⟩
  replace hS := hS.say (t := 25) (.int .i64 (m : Int)) rfl (by rw [hm])
  refine sA hS hR (Yld.assign hS rfl) (by decide) ?_; clear hS; intro aa hS
  refine wpList_nil ?_
  refine hK402 _ _ ?_
  refine wp_seq_k ?_; intro K403 hK403
  refine wp_region_lit ?_
  refine sA hS hR (Yld.move hS rfl) (by decide) ?_; clear hS; intro aa hS
  refine sB (Bcall hS rfl Try.call9 (New_ok hR (by omega)) (by decide) ?_); clear hS; intro aa ww vv hS hp
  clear hR
  obtain ⟨b, rfl, hR⟩ := hp
  rw [Int.toNat_natCast] at hR
  refine sA hS hR (Yld.move hS rfl) (by decide) ?_; clear hS; intro aa hS
  refine sA hS hR (Yld.extract hS rfl rfl) (by decide) ?_; clear hS; intro aa hS
  refine sA hS hR (Yld.extract hS rfl rfl) (by decide) ?_; clear hS; intro aa hS
  refine sA hS hR (Yld.assign hS rfl) (by decide) ?_; clear hS; intro aa hS
  refine sA hS hR (Yld.assign hS rfl) (by decide) ?_; clear hS; intro aa hS
  refine wpList_nil ?_
  refine hK403 _ _ ?_
  refine wp_seq_k ?_; intro K404 hK404
  refine wp_seq_k ?_; intro K405 hK405
  refine wp_region_lit ?_
  refine sA hS hR (Yld.move hS rfl) (by decide) ?_; clear hS; intro aa hS
  refine sA hS hR (Yld.neq hS rfl rfl) (by decide) ?_; clear hS; intro aa hS
  replace hS := hS.sayB (t := 32) false rfl (by simp)
  refine sA hS hR (Yld.move hS rfl) (by decide) ?_; clear hS; intro aa hS
  refine sAg hS hR rfl rfl (Yld.move hS rfl) (by decide) ?_; clear hS; intro aa hS
  refine sAg hS hR rfl rfl (Yld.eqlNil hS rfl rfl Try.underlying23) (by decide) ?_; clear hS; intro aa hS
  replace hS := hS.sayB (t := 35) false rfl (by simp)
  refine sA hS hR (Yld.pickF hS rfl rfl) (by decide) ?_; clear hS; intro aa hS
  refine wpList_nil ?_
  refine hK405 _ _ ?_
  refine condF hS rfl ?_
  refine wp_skip ?_
  refine hK404 _ _ ?_
  refine wp_seq_k ?_; intro K406 hK406
  refine wp_seq_k ?_; intro K407 hK407
  refine wp_region_lit ?_
  refine sA hS hR (Yld.move hS rfl) (by decide) ?_; clear hS; intro aa hS
  refine sA hS hR ((by first | exact Yld.to (Yld.convInt hS rfl rfl Try.underlying3) (congrArg (Value.int .i64) (IntWalk.i64_in _ (by omega))) | exact Yld.convInt hS rfl rfl Try.underlying3)) (by decide) ?_; clear hS; intro aa hS
  refine sA hS hR (Yld.move hS rfl) (by decide) ?_; clear hS; intro aa hS
  refine sA hS hR ((by first | exact Yld.add64 hS rfl rfl (by omega) | exact Yld.add hS rfl rfl)) (by decide) ?_; clear hS; intro aa hS
  refine sA hS hR ((by first | exact Yld.rem64 hS rfl rfl (by omega) | exact Yld.rem hS rfl rfl (by omega))) (by decide) ?_; clear hS; intro aa hS
  obtain ⟨t, ht, htl⟩ := emod_nat (n := b0) (d := (m : Int) + 1) (m := m + 1) (by omega) (by omega)
  replace hS := hS.say (t := 41) (.int .i64 (t : Int)) rfl (by rw [ht])
  refine sA hS hR (Yld.move hS rfl) (by decide) ?_; clear hS; intro aa hS
  refine wpList_nil ?_
  refine hK407 _ _ ?_
  refine wp_block ?_
  replace hR := hR.pk (r := arena 57 60 b (Ar.new m)) (by repeat (first | with_reducible exact Pk.here | with_reducible apply Pk.there))
  refine loopI (X := Nat) [(2, _), (7, _), (8, _), (41, _)] (fun x => [(42, .int .i64 (x : Int))]) (fun x => [arena 57 60 b ((Ar.new m).takes x)]) _ (fun x => x ≤ t) (fun x => t - x) 0 (Nat.zero_le _) (hS.le (Le.cons rfl (Le.nilapp (Le.cons rfl (Le.cons rfl (Le.cons rfl (Le.cons rfl (Le.nil _)))))))) hR ?_
  clear hS hR; rintro k aa ww hI hS hR; dsimp only [List.cons_append, List.nil_append] at hI hS hR
  refine wp_seq_k ?_; intro K409 hK409
  refine wp_region_lit ?_
  refine sA hS hR (Yld.lss hS rfl rfl) (by decide) ?_; clear hS; intro aa hS
  refine wpList_nil ?_
  refine hK409 _ _ ?_
  refine wp_seq_k ?_; intro K410 hK410
  refine hS.splitB (t := 43) rfl ?_ ?_ <;> clear hS
  · intro hg hS
    refine condT hS rfl ?_
    refine wp_skip ?_
    refine hK410 _ _ ?_
    refine wp_seq_k ?_; intro K411 hK411
    refine wp_block ?_
    refine wp_seq_k ?_; intro K412 hK412
    refine wp_region_lit ?_
    refine sA hS hR (Yld.move hS rfl) (by decide) ?_; clear hS; intro aa hS
    refine sB (Bcall hS rfl Try.call10 (Take_okA (hR.pk (r := arena 57 60 _ _) (by repeat (first | with_reducible exact Pk.here | with_reducible apply Pk.there)))) (by decide) ?_); clear hS; intro aa ww vv hS hp
    clear hR
    obtain ⟨rfl, hR⟩ := hp
    rw [takes_top (by omega)] at hS; dsimp only at hS
    change Sep (arena 57 60 b ((Ar.new m).takes (k + 1)) :: _) _ at hR
    refine sA hS hR (Yld.move hS rfl) (by decide) ?_; clear hS; intro aa hS
    refine sA hS hR (Yld.extract hS rfl rfl) (by decide) ?_; clear hS; intro aa hS
    refine sA hS hR (Yld.extract hS rfl rfl) (by decide) ?_; clear hS; intro aa hS
    refine sB (Balloc hS hR info29 (by rfl) (by rfl) (by decide) ?_); clear hS hR; intro aa ww bb10 hS hR
    refine sB (Bstore hS hR rfl rfl (by rfl) info29 (by rfl) (by repeat (first | with_reducible exact Pk.here | with_reducible apply Pk.there)) (by rfl) (Nat.le_of_ble_eq_true rfl) ?_); clear hR; intro ww hR
    refine sA hS hR (Yld.assign hS rfl) (by decide) ?_; clear hS; intro aa hS
    refine wpList_nil ?_
    refine hK412 _ _ ?_
    refine wp_seq_k ?_; intro K413 hK413
    refine wp_region_lit ?_
    refine sA hS hR (Yld.move hS rfl) (by decide) ?_; clear hS; intro aa hS
    refine sA hS hR (Yld.neq hS rfl rfl) (by decide) ?_; clear hS; intro aa hS
    replace hS := hS.sayB (t := 50) false rfl (by simp)
    refine wpList_nil ?_
    refine hK413 _ _ ?_
    refine condF hS rfl ?_
    refine wp_skip ?_
    refine hK411 _ _ ?_
    refine wp_region_lit ?_
    refine sA hS hR ((by first | exact Yld.add64 hS rfl rfl (by omega) | exact Yld.add hS rfl rfl)) (by decide) ?_; clear hS; intro aa hS
    refine sA hS hR (Yld.move hS rfl) (by decide) ?_; clear hS; intro aa hS
    refine wpList_nil ?_
    
    refine ⟨k + 1, ?_, ?_, hS.le (Le.cons rfl (Le.nilapp (Le.cons rfl (Le.cons rfl (Le.cons rfl (Le.cons rfl (Le.nil _))))))), hR.sub (Ex.take (by repeat (first | with_reducible exact Pk.here | with_reducible apply Pk.there)) (Ex.nilapp (by repeat (first | with_reducible exact Ex.refl | (with_reducible apply Ex.take; · repeat (first | with_reducible exact Pk.here | with_reducible apply Pk.there)) | with_reducible apply Ex.drop))))⟩
    · omega
    · omega
  · intro hg hS
    obtain rfl : t = k := by omega
    refine condF hS rfl ?_
    refine wp_exit ?_
    refine hK406 _ _ ?_
    refine wp_seq_k ?_; intro K414 hK414
    refine wp_seq_k ?_; intro K415 hK415
    refine wp_region_lit ?_
    refine sA hS hR (Yld.move hS rfl) (by decide) ?_; clear hS; intro aa hS
    refine sA hS hR (Yld.move hS rfl) (by decide) ?_; clear hS; intro aa hS
    refine sA hS hR (Yld.len hS rfl Try.underlying22) (by decide) ?_; clear hS; intro aa hS
    refine sA hS hR (Yld.min hS rfl rfl) (by decide) ?_; clear hS; intro aa hS
    refine sA hS hR (Yld.sliceHi hS rfl rfl Try.underlying22 info5 (by omega) (by omega)) (by decide) ?_; clear hS; intro aa hS
    obtain ⟨mm, hmm0, hmm1⟩ : ∃ y : Nat, (Min.min (n : Int) 10).toNat = y ∧ y ≤ n ∧ y ≤ 10 := ⟨_, rfl, by omega, by omega⟩
    replace hS := hS.say (t := 56) (.slice q mm c) rfl (by rw [hmm0])
    refine sA hS hR (Yld.len hS rfl Try.underlying22) (by decide) ?_; clear hS; intro aa hS
    refine sA hS hR (Yld.move hS rfl) (by decide) ?_; clear hS; intro aa hS
    refine wpList_nil ?_
    refine hK415 _ _ ?_
    refine wp_block ?_
    replace hR := hR.pk (r := arena 57 60 b ((Ar.new m).takes t)) (by repeat (first | with_reducible exact Pk.here | with_reducible apply Pk.there))
    refine loopI (X := Nat × Ar) [(7, _), (8, _), (56, _), (57, _)] (fun x => [(58, .int .i64 (x.1 : Int))]) (fun x => [arena 57 60 b x.2]) _ (fun x => x.1 ≤ mm ∧ AOk x.2 ∧ x.2.turn.length = m) (fun x => mm - x.1) (0, (Ar.new m).takes t) ⟨Nat.zero_le _, tkn_ok (by omega) (by omega) (by omega), by rw [takes_size]; simp [Ar.new]⟩ (hS.le (Le.cons rfl (Le.nilapp (Le.cons rfl (Le.cons rfl (Le.cons rfl (Le.cons rfl (Le.nil _)))))))) hR ?_
    clear hS hR; rintro ⟨j, A⟩ aa ww hI hS hR; dsimp only [List.cons_append, List.nil_append] at hI hS hR
    have hI2 := hI
    refine wp_seq_k ?_; intro K417 hK417
    refine wp_region_lit ?_
    refine sA hS hR (Yld.lss hS rfl rfl) (by decide) ?_; clear hS; intro aa hS
    refine wpList_nil ?_
    refine hK417 _ _ ?_
    refine wp_seq_k ?_; intro K418 hK418
    refine hS.splitB (t := 59) rfl ?_ ?_ <;> clear hS
    · intro hg hS
      refine condT hS rfl ?_
      refine wp_skip ?_
      refine hK418 _ _ ?_
      refine wp_seq_k ?_; intro K419 hK419
      refine wp_block ?_
      refine wp_seq_k ?_; intro K420 hK420
      refine wp_region_lit ?_
      obtain ⟨ba, ia, ns, hq, hx, hl, hw, hc⟩ := A1.at (k := j) (by omega)
      obtain ⟨s0, rfl⟩ := len1 hl
      subst hq
      have hs0 : 0 ≤ s0 ∧ s0 ≤ 255 := hw.1
      refine sA hS hR ((by first | exact Yld.indexL (sz := 1) _ hS rfl rfl Try.underlying22 info5 (by repeat (first | with_reducible exact Pk.here | with_reducible apply Pk.there)) rfl rfl (by omega) | exact Yld.indexB (sz := 1) _ hS rfl rfl Try.underlying22 info5 rfl rfl (by omega) | exact Yld.indexSlice hS rfl rfl Try.underlying22 info5 (by omega) (by omega))) (by decide) ?_; clear hS; intro aa hS
      refine sA hS hR (Yld.load1 hS rfl Try.underlying5 rfl (Rds.rd (Rds.at (Rds.old (by repeat (first | with_reducible exact Pk.here | with_reducible apply Pk.there)) hc) (by rfl)) (by rfl))) (by decide) ?_; clear hS; intro aa hS
      refine sA hS hR (Yld.assign hS rfl) (by decide) ?_; clear hS; intro aa hS
      refine wpList_nil ?_
      refine hK420 _ _ ?_
      refine wp_seq_k ?_; intro K421 hK421
      refine wp_region_lit ?_
      refine sA hS hR (Yld.move hS rfl) (by decide) ?_; clear hS; intro aa hS
      refine sA hS hR (Yld.move hS rfl) (by decide) ?_; clear hS; intro aa hS
      refine sA hS hR ((by first | exact Yld.to (Yld.convInt hS rfl rfl Try.underlying3) (congrArg (Value.int .i64) (IntWalk.i64_in _ (by omega))) | exact Yld.convInt hS rfl rfl Try.underlying3)) (by decide) ?_; clear hS; intro aa hS
      refine sA hS hR (Yld.move hS rfl) (by decide) ?_; clear hS; intro aa hS
      refine sA hS hR ((by first | exact Yld.rem64 hS rfl rfl (by omega) | exact Yld.rem hS rfl rfl (by omega))) (by decide) ?_; clear hS; intro aa hS
      refine sB (Bcall hS rfl Try.call16 (At_okA (hR.pk (r := arena 57 60 _ _) (by repeat (first | with_reducible exact Pk.here | with_reducible apply Pk.there)))) (by decide) ?_); clear hS; intro aa ww vv hS hp
      clear hR
      obtain ⟨rfl, hR⟩ := hp
      unfold atV at hS
      refine sA hS hR (Yld.move hS rfl) (by decide) ?_; clear hS; intro aa hS
      refine sA hS hR (Yld.extract hS rfl rfl) (by decide) ?_; clear hS; intro aa hS
      refine sA hS hR (Yld.extract hS rfl rfl) (by decide) ?_; clear hS; intro aa hS
      refine sB (Balloc hS hR info29 (by rfl) (by rfl) (by decide) ?_); clear hS hR; intro aa ww bb14 hS hR
      refine sB (Bstore hS hR rfl rfl (by rfl) info29 (by rfl) (by repeat (first | with_reducible exact Pk.here | with_reducible apply Pk.there)) (by rfl) (Nat.le_of_ble_eq_true rfl) ?_); clear hR; intro ww hR
      refine sA hS hR (Yld.assign hS rfl) (by decide) ?_; clear hS; intro aa hS
      refine wpList_nil ?_
      refine hK421 _ _ ?_
      refine wp_seq_k ?_; intro K422 hK422
      refine wp_region_lit ?_
      refine sA hS hR (Yld.move hS rfl) (by decide) ?_; clear hS; intro aa hS
      refine sA hS hR (Yld.move hS rfl) (by decide) ?_; clear hS; intro aa hS
      refine hS.splitB (t := 72) rfl ?_ ?_ <;> clear hS
      · intro hg hS
        obtain ⟨u2, hu2⟩ := Option.isSome_iff_exists.1 hg
        simp only [lay, List.set, hu2, Option.isSome_some, if_true, Option.getD_some] at hR hS
        have hok2 := hI.2.1.giveH (s0 % (m : Int)) u2
        have hsz2 := giveH_size A (s0 % (m : Int)) u2
        refine sAg hS hR rfl rfl (Yld.move hS rfl) (by decide) ?_; clear hS; intro aa hS
        refine sAg hS hR rfl rfl (Yld.loadAgg hS rfl Try.underlying29 rfl info29 (by first | exact Rds.cons (Rd.blk (by repeat (first | with_reducible exact Pk.here | with_reducible apply Pk.there)) (by rfl)) (Rds.cons (Rd.blk (by repeat (first | with_reducible exact Pk.here | with_reducible apply Pk.there)) (by rfl)) (Rds.nil)) | exact Rds.rec (by repeat (first | with_reducible exact Pk.here | with_reducible apply Pk.there)) (by intro _; rfl) (by omega) | exact Rds.flat1 (by repeat (first | with_reducible exact Pk.here | with_reducible apply Pk.there)) (by intro _; rfl) (by omega)) (by rfl)) (by decide) ?_; clear hS; intro aa hS
        refine sBg hS rfl rfl (Bcall hS rfl Try.call11 (Give_okA (hR.pk (r := arena 57 60 _ _) (by repeat (first | with_reducible exact Pk.here | with_reducible apply Pk.there)))) (by decide) ?_); clear hS; intro aa ww vv hS hp
        clear hR
        obtain ⟨rfl, hR⟩ := hp
        refine sAg hS hR rfl rfl (Yld.neq hS rfl rfl) (by decide) ?_; clear hS; intro aa hS
        replace hS := hS.sayB (t := 76) false rfl (by rw [giveE_yes hu2]; simp)
        refine sA hS hR (Yld.pickT hS rfl rfl) (by decide) ?_; clear hS; intro aa hS
        refine wpList_nil ?_
        refine hK422 _ _ ?_
        refine condF hS rfl ?_
        refine wp_skip ?_
        refine hK419 _ _ ?_
        refine wp_region_lit ?_
        refine sA hS hR ((by first | exact Yld.add64 hS rfl rfl (by omega) | exact Yld.add hS rfl rfl)) (by decide) ?_; clear hS; intro aa hS
        refine sA hS hR (Yld.move hS rfl) (by decide) ?_; clear hS; intro aa hS
        refine wpList_nil ?_
        
        refine ⟨(j + 1, _), ?_, ?_, hS.le (Le.cons rfl (Le.nilapp (Le.cons rfl (Le.cons rfl (Le.cons rfl (Le.cons rfl (Le.nil _))))))), hR.sub (Ex.take (by repeat (first | with_reducible exact Pk.here | with_reducible apply Pk.there)) (Ex.nilapp (by repeat (first | with_reducible exact Ex.refl | (with_reducible apply Ex.take; · repeat (first | with_reducible exact Pk.here | with_reducible apply Pk.there)) | with_reducible apply Ex.drop))))⟩
        · dsimp only; exact ⟨by omega, hok2, by omega⟩
        · dsimp only; omega
      · intro hg hS
        have hok2 := hI.2.1
        have hsz2 : A.turn.length = A.turn.length := rfl
        refine sSkip hS rfl rfl rfl (by decide) ?_; clear hS; intro aa hS
        refine sSkip hS rfl rfl rfl (by decide) ?_; clear hS; intro aa hS
        refine sSkip hS rfl rfl rfl (by decide) ?_; clear hS; intro aa hS
        refine sSkip hS rfl rfl rfl (by decide) ?_; clear hS; intro aa hS
        refine sA hS hR (Yld.pickF hS rfl rfl) (by decide) ?_; clear hS; intro aa hS
        refine wpList_nil ?_
        refine hK422 _ _ ?_
        refine condF hS rfl ?_
        refine wp_skip ?_
        refine hK419 _ _ ?_
        refine wp_region_lit ?_
        refine sA hS hR ((by first | exact Yld.add64 hS rfl rfl (by omega) | exact Yld.add hS rfl rfl)) (by decide) ?_; clear hS; intro aa hS
        refine sA hS hR (Yld.move hS rfl) (by decide) ?_; clear hS; intro aa hS
        refine wpList_nil ?_
        
        refine ⟨(j + 1, _), ?_, ?_, hS.le (Le.cons rfl (Le.nilapp (Le.cons rfl (Le.cons rfl (Le.cons rfl (Le.cons rfl (Le.nil _))))))), hR.sub (Ex.take (by repeat (first | with_reducible exact Pk.here | with_reducible apply Pk.there)) (Ex.nilapp (by repeat (first | with_reducible exact Ex.refl | (with_reducible apply Ex.take; · repeat (first | with_reducible exact Pk.here | with_reducible apply Pk.there)) | with_reducible apply Ex.drop))))⟩
        · dsimp only; exact ⟨by omega, hok2, by omega⟩
        · dsimp only; omega
    · intro hg hS
      refine condF hS rfl ?_
      refine wp_exit ?_
      refine hK414 _ _ ?_
      refine wp_seq_k ?_; intro K423 hK423
      refine wp_region_lit ?_
      refine sA hS hR (Yld.move hS rfl) (by decide) ?_; clear hS; intro aa hS
      refine sB (Bcall hS rfl Try.call17 (All_okA (hR.pk (r := arena 57 60 _ _) (by repeat (first | with_reducible exact Pk.here | with_reducible apply Pk.there)))) (by decide) ?_); clear hS; intro aa ww vv hS hp
      clear hR
      obtain ⟨ra, ca, rfl, hR⟩ := hp
      refine sA hS hR (Yld.move hS rfl) (by decide) ?_; clear hS; intro aa hS
      refine sB (Bcall hS rfl Try.call14 (Free_okA (hR.pk (r := arena 57 60 _ _) (by repeat (first | with_reducible exact Pk.here | with_reducible apply Pk.there)))) (by decide) ?_); clear hS; intro aa ww vv hS hp
      clear hR
      obtain ⟨rf, cf, rfl, hR⟩ := hp
      refine sA hS hR (Yld.assign hS rfl) (by decide) ?_; clear hS; intro aa hS
      refine sA hS hR (Yld.assign hS rfl) (by decide) ?_; clear hS; intro aa hS
      refine wpList_nil ?_
      refine hK423 _ _ ?_
      refine wp_seq_k ?_; intro K424 hK424
      refine wp_seq_k ?_; intro K425 hK425
      refine wp_region_lit ?_
      refine sA hS hR (Yld.move hS rfl) (by decide) ?_; clear hS; intro aa hS
      refine sB (Bcall hS rfl Try.call18 (Clear_okA (hR.pk (r := arena 57 60 _ _) (by repeat (first | with_reducible exact Pk.here | with_reducible apply Pk.there)))) (by decide) ?_); clear hS; intro aa ww vv hS hp
      clear hR
      obtain ⟨rfl, hR⟩ := hp
      obtain ⟨hfr, hcl⟩ := clrs_all hI2.2.1
      rw [hI2.2.2] at hfr hcl hR
      have hall := (Lv.lives hI2.2.1 hI2.2.2).all
      have hallC := hcl.all
      obtain ⟨C, hC⟩ : ∃ x, A.clrs m = x := ⟨_, rfl⟩
      rw [hC] at hfr hcl hR hallC
      simp only [List.length_nil] at hallC
      have hcf : C.free.length = C.frees.length := (List.length_map _).symm
      have haf : A.free.length = A.frees.length := (List.length_map _).symm
      refine sA hS hR (Yld.neq hS rfl rfl) (by decide) ?_; clear hS; intro aa hS
      replace hS := hS.sayB (t := 85) false rfl (by simp)
      refine sA hS hR (Yld.move hS rfl) (by decide) ?_; clear hS; intro aa hS
      refine sAg hS hR rfl rfl (Yld.move hS rfl) (by decide) ?_; clear hS; intro aa hS
      refine sBg hS rfl rfl (Bcall hS rfl Try.call15 (Count_okA (hR.pk (r := arena 57 60 _ _) (by repeat (first | with_reducible exact Pk.here | with_reducible apply Pk.there)))) (by decide) ?_); clear hS; intro aa ww vv hS hp
      clear hR
      obtain ⟨rfl, hR⟩ := hp
      refine sAg hS hR rfl rfl (Yld.neq hS rfl rfl) (by decide) ?_; clear hS; intro aa hS
      replace hS := hS.sayB (t := 89) false rfl (by rw [hcl.count.2]; simp)
      refine sA hS hR (Yld.pickF hS rfl rfl) (by decide) ?_; clear hS; intro aa hS
      refine sA hS hR (Yld.move hS rfl) (by decide) ?_; clear hS; intro aa hS
      refine sAg hS hR rfl rfl (Yld.move hS rfl) (by decide) ?_; clear hS; intro aa hS
      refine sBg hS rfl rfl (Bcall hS rfl Try.call17 (All_okA (hR.pk (r := arena 57 60 _ _) (by repeat (first | with_reducible exact Pk.here | with_reducible apply Pk.there)))) (by decide) ?_); clear hS; intro aa ww vv hS hp
      clear hR
      obtain ⟨r, c, rfl, hR⟩ := hp
      refine sAg hS hR rfl rfl (Yld.len hS rfl Try.underlying27) (by decide) ?_; clear hS; intro aa hS
      refine sAg hS hR rfl rfl (Yld.neq hS rfl rfl) (by decide) ?_; clear hS; intro aa hS
      replace hS := hS.sayB (t := 95) false rfl (by rw [hcl.count.1]; simp)
      refine sA hS hR (Yld.pickF hS rfl rfl) (by decide) ?_; clear hS; intro aa hS
      refine wpList_nil ?_
      refine hK425 _ _ ?_
      refine condF hS rfl ?_
      refine wp_skip ?_
      refine hK424 _ _ ?_
      refine wp_seq_k ?_; intro K426 hK426
      refine wp_region_lit ?_
      refine sA hS hR (Yld.move hS rfl) (by decide) ?_; clear hS; intro aa hS
      refine sB (Bcall hS rfl Try.call14 (Free_okA (hR.pk (r := arena 57 60 _ _) (by repeat (first | with_reducible exact Pk.here | with_reducible apply Pk.there)))) (by decide) ?_); clear hS; intro aa ww vv hS hp
      clear hR
      obtain ⟨rn, cn, rfl, hR⟩ := hp
      rw [hfr] at hR
      obtain ⟨nw, hnw⟩ : ∃ x, A.lives.map Prod.fst ++ A.frees = x := ⟨_, rfl⟩
      have hnl : nw.length = A.lives.length + A.frees.length := by rw [← hnw]; simp
      have hn1 : ∀ i (h : i < A.lives.length) (h2 : i < nw.length), nw[i] = A.lives[i].1 := by subst hnw; intro i h h2; simp [List.getElem_append_left, h]
      have hn2 : ∀ i (h : A.lives.length ≤ i) (h3 : i - A.lives.length < A.frees.length) (h2 : i < nw.length), nw[i] = A.frees[i - A.lives.length] := by subst hnw; intro i h h3 h2; simp [List.getElem_append_right, h]
      rw [hnw] at hR
      refine sA hS hR (Yld.assign hS rfl) (by decide) ?_; clear hS; intro aa hS
      refine wpList_nil ?_
      refine hK426 _ _ ?_
      refine wp_seq_k ?_; intro K427 hK427
      refine wp_seq_k ?_; intro K428 hK428
      refine wp_region_lit ?_
      refine sA hS hR (Yld.move hS rfl) (by decide) ?_; clear hS; intro aa hS
      refine sA hS hR (Yld.len hS rfl Try.underlying36) (by decide) ?_; clear hS; intro aa hS
      refine sA hS hR (Yld.move hS rfl) (by decide) ?_; clear hS; intro aa hS
      refine sA hS hR (Yld.neq hS rfl rfl) (by decide) ?_; clear hS; intro aa hS
      replace hS := hS.sayB (t := 102) false rfl (by exact decide_eq_false (by omega))
      refine sA hS hR (Yld.move hS rfl) (by decide) ?_; clear hS; intro aa hS
      refine sAg hS hR rfl rfl (Yld.move hS rfl) (by decide) ?_; clear hS; intro aa hS
      refine sAg hS hR rfl rfl (Yld.len hS rfl Try.underlying27) (by decide) ?_; clear hS; intro aa hS
      refine sAg hS hR rfl rfl (Yld.move hS rfl) (by decide) ?_; clear hS; intro aa hS
      refine sAg hS hR rfl rfl (Yld.len hS rfl Try.underlying36) (by decide) ?_; clear hS; intro aa hS
      refine sAg hS hR rfl rfl ((by first | exact Yld.add64 hS rfl rfl (by omega) | exact Yld.add hS rfl rfl)) (by decide) ?_; clear hS; intro aa hS
      refine sAg hS hR rfl rfl (Yld.move hS rfl) (by decide) ?_; clear hS; intro aa hS
      refine sAg hS hR rfl rfl (Yld.neq hS rfl rfl) (by decide) ?_; clear hS; intro aa hS
      replace hS := hS.sayB (t := 110) false rfl (by exact decide_eq_false (by omega))
      refine sA hS hR (Yld.pickF hS rfl rfl) (by decide) ?_; clear hS; intro aa hS
      refine wpList_nil ?_
      refine hK428 _ _ ?_
      refine condF hS rfl ?_
      refine wp_skip ?_
      refine hK427 _ _ ?_
      refine wp_seq_k ?_; intro K429 hK429
      refine wp_seq_k ?_; intro K430 hK430
      refine wp_region_lit ?_
      refine sA hS hR (Yld.move hS rfl) (by decide) ?_; clear hS; intro aa hS
      refine sA hS hR (Yld.len hS rfl Try.underlying36) (by decide) ?_; clear hS; intro aa hS
      refine sA hS hR (Yld.move hS rfl) (by decide) ?_; clear hS; intro aa hS
      refine wpList_nil ?_
      refine hK430 _ _ ?_
      refine wp_block ?_
      refine loopI (X := Nat) [(8, _), (16, _), (17, _), (18, _), (113, _)] (fun x => [(114, .int .i64 (x : Int))]) (fun x => []) _ (fun x => x ≤ C.free.length) (fun x => C.free.length - x) 0 (Nat.zero_le _) (hS.le (Le.cons rfl (Le.nilapp (Le.cons rfl (Le.cons rfl (Le.cons rfl (Le.cons rfl (Le.cons rfl (Le.nil _))))))))) hR ?_
      clear hS hR; rintro i aa ww hI hS hR; dsimp only [List.cons_append, List.nil_append] at hI hS hR
      refine wp_seq_k ?_; intro K432 hK432
      refine wp_region_lit ?_
      refine sA hS hR (Yld.lss hS rfl rfl) (by decide) ?_; clear hS; intro aa hS
      refine wpList_nil ?_
      refine hK432 _ _ ?_
      refine wp_seq_k ?_; intro K433 hK433
      refine hS.splitB (t := 115) rfl ?_ ?_ <;> clear hS
      · intro hg hS
        refine condT hS rfl ?_
        refine wp_skip ?_
        refine hK433 _ _ ?_
        refine wp_seq_k ?_; intro K434 hK434
        refine wp_block ?_
        refine wp_seq_k ?_; intro K435 hK435
        refine wp_region_lit ?_
        refine sA hS hR (Yld.move hS rfl) (by decide) ?_; clear hS; intro aa hS
        refine sA hS hR (Yld.assign hS rfl) (by decide) ?_; clear hS; intro aa hS
        refine wpList_nil ?_
        refine hK435 _ _ ?_
        refine wp_seq_k ?_; intro K436 hK436
        refine drawn (by kernel_rfl) hR Ex.refl ?_; clear hR; intro ww hR hR0
        refine dA 0 rfl (by kernel_rfl) (by kernel_rfl) (by kernel_rfl) (fun _ _ _ h => h) hS hR0 (Yld.move hS rfl) (by decide) ?_; clear hS; intro aa hS
        refine dA 1 rfl (by kernel_rfl) (by kernel_rfl) (by kernel_rfl) (fun _ _ _ h => h) hS hR0 (Yld.move hS rfl) (by decide) ?_; clear hS; intro aa hS
        refine dA 2 rfl (by kernel_rfl) (by kernel_rfl) (by kernel_rfl) (fun _ _ _ h => h) hS hR0 (Yld.len hS rfl Try.underlying27) (by decide) ?_; clear hS; intro aa hS
        refine dA 3 rfl (by kernel_rfl) (by kernel_rfl) (by kernel_rfl) (fun _ _ _ h => h) hS hR0 (Yld.lss hS rfl rfl) (by decide) ?_; clear hS; intro aa hS
        refine dA 4 rfl (by kernel_rfl) (by kernel_rfl) (by kernel_rfl) (fun _ _ _ h => h) hS hR0 (Yld.move hS rfl) (by decide) ?_; clear hS; intro aa hS
        refine hS.splitB (t := 121) rfl ?_ ?_ <;> clear hS
        · intro hg hS
          have hil : i < A.lives.length := by omega
          refine dAg 5 rfl (by kernel_rfl) (by kernel_rfl) (by kernel_rfl) (fun _ _ _ h => h) hS rfl rfl hR0 (Yld.move hS rfl) (by decide) ?_; clear hS; intro aa hS
          refine dAg 6 rfl (by kernel_rfl) (by kernel_rfl) (by kernel_rfl) (fun _ _ _ h => h) hS rfl rfl hR0 (Yld.move hS rfl) (by decide) ?_; clear hS; intro aa hS
          refine dAg 7 rfl (by kernel_rfl) (by kernel_rfl) (by kernel_rfl) (fun _ _ _ h => h) hS rfl rfl hR0 ((by first | exact Yld.indexL (sz := 1) _ hS rfl rfl Try.underlying36 info3 (by repeat (first | with_reducible exact Pk.here | with_reducible apply Pk.there)) rfl rfl (by omega) | exact Yld.indexB (sz := 1) _ hS rfl rfl Try.underlying36 info3 rfl rfl (by omega) | exact Yld.indexSlice hS rfl rfl Try.underlying36 info3 (by omega) (by omega))) (by decide) ?_; clear hS; intro aa hS
          refine dAg 8 rfl (by kernel_rfl) (by kernel_rfl) (by kernel_rfl) (fun _ _ _ h => h) hS rfl rfl hR0 (Yld.load1 hS rfl Try.underlying3 rfl (by first | exact Rd.blk (by repeat (first | with_reducible exact Pk.here | with_reducible apply Pk.there)) (by rfl) | exact Rd.rec (by repeat (first | with_reducible exact Pk.here | with_reducible apply Pk.there)) (by intro _; rfl) (by omega) rfl | exact Rd.rec0 (by repeat (first | with_reducible exact Pk.here | with_reducible apply Pk.there)) (by intro _; rfl) (by omega) rfl | exact Rd.flatJ (by repeat (first | with_reducible exact Pk.here | with_reducible apply Pk.there)) (by intro _; rfl) (by omega) rfl | exact Rd.flat0 (by repeat (first | with_reducible exact Pk.here | with_reducible apply Pk.there)) (by intro _; rfl) (by omega) rfl)) (by decide) ?_; clear hS; intro aa hS
          refine dAg 9 rfl (by kernel_rfl) (by kernel_rfl) (by kernel_rfl) (fun _ _ _ h => h) hS rfl rfl hR0 (Yld.move hS rfl) (by decide) ?_; clear hS; intro aa hS
          refine dAg 10 rfl (by kernel_rfl) (by kernel_rfl) (by kernel_rfl) (fun _ _ _ h => h) hS rfl rfl hR0 (Yld.move hS rfl) (by decide) ?_; clear hS; intro aa hS
          refine dAg 11 rfl (by kernel_rfl) (by kernel_rfl) (by kernel_rfl) (fun _ _ _ h => h) hS rfl rfl hR0 ((by first | exact Yld.indexL (sz := 2) _ hS rfl rfl Try.underlying27 info29 (by repeat (first | with_reducible exact Pk.here | with_reducible apply Pk.there)) rfl rfl (by omega) | exact Yld.indexB (sz := 2) _ hS rfl rfl Try.underlying27 info29 rfl rfl (by omega) | exact Yld.indexSlice hS rfl rfl Try.underlying27 info29 (by omega) (by omega))) (by decide) ?_; clear hS; intro aa hS
          refine dAg 12 rfl (by kernel_rfl) (by kernel_rfl) (by kernel_rfl) (fun _ _ _ h => h) hS rfl rfl hR0 (Yld.fieldAddr hS rfl 0 Try.underlying29 rfl rfl info3 (by decide)) (by decide) ?_; clear hS; intro aa hS
          refine dAg 13 rfl (by kernel_rfl) (by kernel_rfl) (by kernel_rfl) (fun _ _ _ h => h) hS rfl rfl hR0 (Yld.load1 hS rfl Try.underlying3 rfl (by first | exact Rd.blk (by repeat (first | with_reducible exact Pk.here | with_reducible apply Pk.there)) (by rfl) | exact Rd.rec (by repeat (first | with_reducible exact Pk.here | with_reducible apply Pk.there)) (by intro _; rfl) (by omega) rfl | exact Rd.rec0 (by repeat (first | with_reducible exact Pk.here | with_reducible apply Pk.there)) (by intro _; rfl) (by omega) rfl | exact Rd.flatJ (by repeat (first | with_reducible exact Pk.here | with_reducible apply Pk.there)) (by intro _; rfl) (by omega) rfl | exact Rd.flat0 (by repeat (first | with_reducible exact Pk.here | with_reducible apply Pk.there)) (by intro _; rfl) (by omega) rfl)) (by decide) ?_; clear hS; intro aa hS
          refine dAg 14 rfl (by kernel_rfl) (by kernel_rfl) (by kernel_rfl) (fun _ _ _ h => h) hS rfl rfl hR0 (Yld.neq hS rfl rfl) (by decide) ?_; clear hS; intro aa hS
          replace hS := hS.sayB (t := 131) false rfl (by exact decide_eq_false (fun h => h (hn1 _ hil _)))
          refine dA 15 rfl (by kernel_rfl) (by kernel_rfl) (by kernel_rfl) (fun _ _ _ h => h) hS hR0 (Yld.pickT hS rfl rfl) (by decide) ?_; clear hS; intro aa hS
          refine dA 16 rfl (by kernel_rfl) (by kernel_rfl) (by kernel_rfl) (fun _ _ _ h => h) hS hR0 (Yld.move hS rfl) (by decide) ?_; clear hS; intro aa hS
          refine dAg 17 rfl (by kernel_rfl) (by kernel_rfl) (by kernel_rfl) (fun _ _ _ h => h) hS rfl rfl hR0 (Yld.move hS rfl) (by decide) ?_; clear hS; intro aa hS
          refine dAg 18 rfl (by kernel_rfl) (by kernel_rfl) (by kernel_rfl) (fun _ _ _ h => h) hS rfl rfl hR0 (Yld.move hS rfl) (by decide) ?_; clear hS; intro aa hS
          refine dAg 19 rfl (by kernel_rfl) (by kernel_rfl) (by kernel_rfl) (fun _ _ _ h => h) hS rfl rfl hR0 (Yld.len hS rfl Try.underlying27) (by decide) ?_; clear hS; intro aa hS
          refine dAg 20 rfl (by kernel_rfl) (by kernel_rfl) (by kernel_rfl) (fun _ _ _ h => h) hS rfl rfl hR0 (Yld.geq hS rfl rfl) (by decide) ?_; clear hS; intro aa hS
          replace hS := hS.sayB (t := 137) false rfl (by exact decide_eq_false (by omega))
          refine dAg 21 rfl (by kernel_rfl) (by kernel_rfl) (by kernel_rfl) (fun _ _ _ h => h) hS rfl rfl hR0 (Yld.move hS rfl) (by decide) ?_; clear hS; intro aa hS
          refine dSkip 22 rfl (by kernel_rfl) (by kernel_rfl) (by kernel_rfl) (fun _ _ _ h => h) hS rfl rfl rfl hR0 (by decide) ?_; clear hS; intro aa hS
          refine dSkip 23 rfl (by kernel_rfl) (by kernel_rfl) (by kernel_rfl) (fun _ _ _ h => h) hS rfl rfl rfl hR0 (by decide) ?_; clear hS; intro aa hS
          refine dSkip 24 rfl (by kernel_rfl) (by kernel_rfl) (by kernel_rfl) (fun _ _ _ h => h) hS rfl rfl rfl hR0 (by decide) ?_; clear hS; intro aa hS
          refine dSkip 25 rfl (by kernel_rfl) (by kernel_rfl) (by kernel_rfl) (fun _ _ _ h => h) hS rfl rfl rfl hR0 (by decide) ?_; clear hS; intro aa hS
          refine dSkip 26 rfl (by kernel_rfl) (by kernel_rfl) (by kernel_rfl) (fun _ _ _ h => h) hS rfl rfl rfl hR0 (by decide) ?_; clear hS; intro aa hS
          refine dSkip 27 rfl (by kernel_rfl) (by kernel_rfl) (by kernel_rfl) (fun _ _ _ h => h) hS rfl rfl rfl hR0 (by decide) ?_; clear hS; intro aa hS
          refine dSkip 28 rfl (by kernel_rfl) (by kernel_rfl) (by kernel_rfl) (fun _ _ _ h => h) hS rfl rfl rfl hR0 (by decide) ?_; clear hS; intro aa hS
          refine dSkip 29 rfl (by kernel_rfl) (by kernel_rfl) (by kernel_rfl) (fun _ _ _ h => h) hS rfl rfl rfl hR0 (by decide) ?_; clear hS; intro aa hS
          refine dSkip 30 rfl (by kernel_rfl) (by kernel_rfl) (by kernel_rfl) (fun _ _ _ h => h) hS rfl rfl rfl hR0 (by decide) ?_; clear hS; intro aa hS
          refine dSkip 31 rfl (by kernel_rfl) (by kernel_rfl) (by kernel_rfl) (fun _ _ _ h => h) hS rfl rfl rfl hR0 (by decide) ?_; clear hS; intro aa hS
          refine dSkip 32 rfl (by kernel_rfl) (by kernel_rfl) (by kernel_rfl) (fun _ _ _ h => h) hS rfl rfl rfl hR0 (by decide) ?_; clear hS; intro aa hS
          refine dSkip 33 rfl (by kernel_rfl) (by kernel_rfl) (by kernel_rfl) (fun _ _ _ h => h) hS rfl rfl rfl hR0 (by decide) ?_; clear hS; intro aa hS
          refine dAg 34 rfl (by kernel_rfl) (by kernel_rfl) (by kernel_rfl) (fun _ _ _ h => h) hS rfl rfl hR0 (Yld.pickF hS rfl rfl) (by decide) ?_; clear hS; intro aa hS
          refine dA 35 rfl (by kernel_rfl) (by kernel_rfl) (by kernel_rfl) (fun _ _ _ h => h) hS hR0 (Yld.pickF hS rfl rfl) (by decide) ?_; clear hS; intro aa hS
          refine wpAnyH_done (by kernel_rfl) ?_ _; clear hR0
          refine hK436 _ _ ?_
          refine condF hS rfl ?_
          refine wp_skip ?_
          refine hK434 _ _ ?_
          refine wp_region_lit ?_
          refine sA hS hR ((by first | exact Yld.add64 hS rfl rfl (by omega) | exact Yld.add hS rfl rfl)) (by decide) ?_; clear hS; intro aa hS
          refine sA hS hR (Yld.move hS rfl) (by decide) ?_; clear hS; intro aa hS
          refine wpList_nil ?_
          
          refine ⟨i + 1, ?_, ?_, hS.le (Le.cons rfl (Le.nilapp (Le.cons rfl (Le.cons rfl (Le.cons rfl (Le.cons rfl (Le.cons rfl (Le.nil _)))))))), hR.sub (Ex.nilapp (by repeat (first | with_reducible exact Ex.refl | (with_reducible apply Ex.take; · repeat (first | with_reducible exact Pk.here | with_reducible apply Pk.there)) | with_reducible apply Ex.drop)))⟩
          · omega
          · omega
        · intro hg hS
          have hil : A.lives.length ≤ i := by omega
          have hil2 : i - A.lives.length < A.frees.length := by omega
          refine dSkip 5 rfl (by kernel_rfl) (by kernel_rfl) (by kernel_rfl) (fun _ _ _ h => h) hS rfl rfl rfl hR0 (by decide) ?_; clear hS; intro aa hS
          refine dSkip 6 rfl (by kernel_rfl) (by kernel_rfl) (by kernel_rfl) (fun _ _ _ h => h) hS rfl rfl rfl hR0 (by decide) ?_; clear hS; intro aa hS
          refine dSkip 7 rfl (by kernel_rfl) (by kernel_rfl) (by kernel_rfl) (fun _ _ _ h => h) hS rfl rfl rfl hR0 (by decide) ?_; clear hS; intro aa hS
          refine dSkip 8 rfl (by kernel_rfl) (by kernel_rfl) (by kernel_rfl) (fun _ _ _ h => h) hS rfl rfl rfl hR0 (by decide) ?_; clear hS; intro aa hS
          refine dSkip 9 rfl (by kernel_rfl) (by kernel_rfl) (by kernel_rfl) (fun _ _ _ h => h) hS rfl rfl rfl hR0 (by decide) ?_; clear hS; intro aa hS
          refine dSkip 10 rfl (by kernel_rfl) (by kernel_rfl) (by kernel_rfl) (fun _ _ _ h => h) hS rfl rfl rfl hR0 (by decide) ?_; clear hS; intro aa hS
          refine dSkip 11 rfl (by kernel_rfl) (by kernel_rfl) (by kernel_rfl) (fun _ _ _ h => h) hS rfl rfl rfl hR0 (by decide) ?_; clear hS; intro aa hS
          refine dSkip 12 rfl (by kernel_rfl) (by kernel_rfl) (by kernel_rfl) (fun _ _ _ h => h) hS rfl rfl rfl hR0 (by decide) ?_; clear hS; intro aa hS
          refine dSkip 13 rfl (by kernel_rfl) (by kernel_rfl) (by kernel_rfl) (fun _ _ _ h => h) hS rfl rfl rfl hR0 (by decide) ?_; clear hS; intro aa hS
          refine dSkip 14 rfl (by kernel_rfl) (by kernel_rfl) (by kernel_rfl) (fun _ _ _ h => h) hS rfl rfl rfl hR0 (by decide) ?_; clear hS; intro aa hS
          refine dA 15 rfl (by kernel_rfl) (by kernel_rfl) (by kernel_rfl) (fun _ _ _ h => h) hS hR0 (Yld.pickF hS rfl rfl) (by decide) ?_; clear hS; intro aa hS
          refine dA 16 rfl (by kernel_rfl) (by kernel_rfl) (by kernel_rfl) (fun _ _ _ h => h) hS hR0 (Yld.move hS rfl) (by decide) ?_; clear hS; intro aa hS
          refine dAg 17 rfl (by kernel_rfl) (by kernel_rfl) (by kernel_rfl) (fun _ _ _ h => h) hS rfl rfl hR0 (Yld.move hS rfl) (by decide) ?_; clear hS; intro aa hS
          refine dAg 18 rfl (by kernel_rfl) (by kernel_rfl) (by kernel_rfl) (fun _ _ _ h => h) hS rfl rfl hR0 (Yld.move hS rfl) (by decide) ?_; clear hS; intro aa hS
          refine dAg 19 rfl (by kernel_rfl) (by kernel_rfl) (by kernel_rfl) (fun _ _ _ h => h) hS rfl rfl hR0 (Yld.len hS rfl Try.underlying27) (by decide) ?_; clear hS; intro aa hS
          refine dAg 20 rfl (by kernel_rfl) (by kernel_rfl) (by kernel_rfl) (fun _ _ _ h => h) hS rfl rfl hR0 (Yld.geq hS rfl rfl) (by decide) ?_; clear hS; intro aa hS
          replace hS := hS.sayB (t := 137) true rfl (by exact decide_eq_true (by omega))
          refine dAg 21 rfl (by kernel_rfl) (by kernel_rfl) (by kernel_rfl) (fun _ _ _ h => h) hS rfl rfl hR0 (Yld.move hS rfl) (by decide) ?_; clear hS; intro aa hS
          refine dAg 22 rfl (by kernel_rfl) (by kernel_rfl) (by kernel_rfl) (fun _ _ _ h => h) hS rfl rfl hR0 (Yld.move hS rfl) (by decide) ?_; clear hS; intro aa hS
          refine dAg 23 rfl (by kernel_rfl) (by kernel_rfl) (by kernel_rfl) (fun _ _ _ h => h) hS rfl rfl hR0 (Yld.move hS rfl) (by decide) ?_; clear hS; intro aa hS
          refine dAg 24 rfl (by kernel_rfl) (by kernel_rfl) (by kernel_rfl) (fun _ _ _ h => h) hS rfl rfl hR0 ((by first | exact Yld.indexL (sz := 1) _ hS rfl rfl Try.underlying36 info3 (by repeat (first | with_reducible exact Pk.here | with_reducible apply Pk.there)) rfl rfl (by omega) | exact Yld.indexB (sz := 1) _ hS rfl rfl Try.underlying36 info3 rfl rfl (by omega) | exact Yld.indexSlice hS rfl rfl Try.underlying36 info3 (by omega) (by omega))) (by decide) ?_; clear hS; intro aa hS
          refine dAg 25 rfl (by kernel_rfl) (by kernel_rfl) (by kernel_rfl) (fun _ _ _ h => h) hS rfl rfl hR0 (Yld.load1 hS rfl Try.underlying3 rfl (by first | exact Rd.blk (by repeat (first | with_reducible exact Pk.here | with_reducible apply Pk.there)) (by rfl) | exact Rd.rec (by repeat (first | with_reducible exact Pk.here | with_reducible apply Pk.there)) (by intro _; rfl) (by omega) rfl | exact Rd.rec0 (by repeat (first | with_reducible exact Pk.here | with_reducible apply Pk.there)) (by intro _; rfl) (by omega) rfl | exact Rd.flatJ (by repeat (first | with_reducible exact Pk.here | with_reducible apply Pk.there)) (by intro _; rfl) (by omega) rfl | exact Rd.flat0 (by repeat (first | with_reducible exact Pk.here | with_reducible apply Pk.there)) (by intro _; rfl) (by omega) rfl)) (by decide) ?_; clear hS; intro aa hS
          refine dAg 26 rfl (by kernel_rfl) (by kernel_rfl) (by kernel_rfl) (fun _ _ _ h => h) hS rfl rfl hR0 (Yld.move hS rfl) (by decide) ?_; clear hS; intro aa hS
          refine dAg 27 rfl (by kernel_rfl) (by kernel_rfl) (by kernel_rfl) (fun _ _ _ h => h) hS rfl rfl hR0 (Yld.move hS rfl) (by decide) ?_; clear hS; intro aa hS
          refine dAg 28 rfl (by kernel_rfl) (by kernel_rfl) (by kernel_rfl) (fun _ _ _ h => h) hS rfl rfl hR0 (Yld.move hS rfl) (by decide) ?_; clear hS; intro aa hS
          refine dAg 29 rfl (by kernel_rfl) (by kernel_rfl) (by kernel_rfl) (fun _ _ _ h => h) hS rfl rfl hR0 (Yld.len hS rfl Try.underlying27) (by decide) ?_; clear hS; intro aa hS
          refine dAg 30 rfl (by kernel_rfl) (by kernel_rfl) (by kernel_rfl) (fun _ _ _ h => h) hS rfl rfl hR0 ((by first | exact Yld.sub64 hS rfl rfl (by omega) | exact Yld.sub hS rfl rfl)) (by decide) ?_; clear hS; intro aa hS
          refine dAg 31 rfl (by kernel_rfl) (by kernel_rfl) (by kernel_rfl) (fun _ _ _ h => h) hS rfl rfl hR0 ((by first | exact Yld.indexL (sz := 1) (i - A.lives.length) hS rfl rfl Try.underlying36 info3 (by repeat (first | with_reducible exact Pk.here | with_reducible apply Pk.there)) rfl (by first | rfl | omega) (by omega) | exact Yld.indexB (sz := 1) (i - A.lives.length) hS rfl rfl Try.underlying36 info3 rfl (by first | rfl | omega) (by omega))) (by decide) ?_; clear hS; intro aa hS
          refine dAg 32 rfl (by kernel_rfl) (by kernel_rfl) (by kernel_rfl) (fun _ _ _ h => h) hS rfl rfl hR0 (Yld.load1 hS rfl Try.underlying3 rfl (by first | exact Rd.blk (by repeat (first | with_reducible exact Pk.here | with_reducible apply Pk.there)) (by rfl) | exact Rd.rec (by repeat (first | with_reducible exact Pk.here | with_reducible apply Pk.there)) (by intro _; rfl) (by omega) rfl | exact Rd.rec0 (by repeat (first | with_reducible exact Pk.here | with_reducible apply Pk.there)) (by intro _; rfl) (by omega) rfl | exact Rd.flatJ (by repeat (first | with_reducible exact Pk.here | with_reducible apply Pk.there)) (by intro _; rfl) (by omega) rfl | exact Rd.flat0 (by repeat (first | with_reducible exact Pk.here | with_reducible apply Pk.there)) (by intro _; rfl) (by omega) rfl)) (by decide) ?_; clear hS; intro aa hS
          refine dAg 33 rfl (by kernel_rfl) (by kernel_rfl) (by kernel_rfl) (fun _ _ _ h => h) hS rfl rfl hR0 (Yld.neq hS rfl rfl) (by decide) ?_; clear hS; intro aa hS
          replace hS := hS.sayB (t := 150) false rfl (by exact decide_eq_false (fun h => h (hn2 _ hil hil2 _)))
          refine dAg 34 rfl (by kernel_rfl) (by kernel_rfl) (by kernel_rfl) (fun _ _ _ h => h) hS rfl rfl hR0 (Yld.pickT hS rfl rfl) (by decide) ?_; clear hS; intro aa hS
          refine dA 35 rfl (by kernel_rfl) (by kernel_rfl) (by kernel_rfl) (fun _ _ _ h => h) hS hR0 (Yld.pickF hS rfl rfl) (by decide) ?_; clear hS; intro aa hS
          refine wpAnyH_done (by kernel_rfl) ?_ _; clear hR0
          refine hK436 _ _ ?_
          refine condF hS rfl ?_
          refine wp_skip ?_
          refine hK434 _ _ ?_
          refine wp_region_lit ?_
          refine sA hS hR ((by first | exact Yld.add64 hS rfl rfl (by omega) | exact Yld.add hS rfl rfl)) (by decide) ?_; clear hS; intro aa hS
          refine sA hS hR (Yld.move hS rfl) (by decide) ?_; clear hS; intro aa hS
          refine wpList_nil ?_
          
          refine ⟨i + 1, ?_, ?_, hS.le (Le.cons rfl (Le.nilapp (Le.cons rfl (Le.cons rfl (Le.cons rfl (Le.cons rfl (Le.cons rfl (Le.nil _)))))))), hR.sub (Ex.nilapp (by repeat (first | with_reducible exact Ex.refl | (with_reducible apply Ex.take; · repeat (first | with_reducible exact Pk.here | with_reducible apply Pk.there)) | with_reducible apply Ex.drop)))⟩
          · omega
          · omega
      · intro hg hS
        refine condF hS rfl ?_
        refine wp_exit ?_
        refine hK429 _ _ ?_
        refine wp_seq_k ?_; intro K437 hK437
        refine wp_seq_k ?_; intro K438 hK438
        refine wp_region_lit ?_
        refine sA hS hR (Yld.move hS rfl) (by decide) ?_; clear hS; intro aa hS
        refine sA hS hR (Yld.len hS rfl Try.underlying27) (by decide) ?_; clear hS; intro aa hS
        refine sA hS hR (Yld.move hS rfl) (by decide) ?_; clear hS; intro aa hS
        refine wpList_nil ?_
        refine hK438 _ _ ?_
        refine wp_block ?_
        refine loopI (X := Nat) [(8, _), (154, _), (155, _)] (fun x => [(156, .int .i64 (x : Int))]) (fun x => []) _ (fun x => x ≤ A.lives.length) (fun x => A.lives.length - x) 0 (Nat.zero_le _) (hS.le (Le.cons rfl (Le.nilapp (Le.cons rfl (Le.cons rfl (Le.cons rfl (Le.nil _))))))) hR ?_
        clear hS hR; rintro i2 aa ww hI hS hR; dsimp only [List.cons_append, List.nil_append] at hI hS hR
        refine wp_seq_k ?_; intro K440 hK440
        refine wp_region_lit ?_
        refine sA hS hR (Yld.lss hS rfl rfl) (by decide) ?_; clear hS; intro aa hS
        refine wpList_nil ?_
        refine hK440 _ _ ?_
        refine wp_seq_k ?_; intro K441 hK441
        refine hS.splitB (t := 157) rfl ?_ ?_ <;> clear hS
        · intro hg hS
          refine condT hS rfl ?_
          refine wp_skip ?_
          refine hK441 _ _ ?_
          refine wp_seq_k ?_; intro K442 hK442
          refine wp_block ?_
          refine wp_seq_k ?_; intro K443 hK443
          refine wp_region_lit ?_
          refine sA hS hR ((by first | exact Yld.indexL (sz := 2) _ hS rfl rfl Try.underlying27 info29 (by repeat (first | with_reducible exact Pk.here | with_reducible apply Pk.there)) rfl rfl (by omega) | exact Yld.indexB (sz := 2) _ hS rfl rfl Try.underlying27 info29 rfl rfl (by omega) | exact Yld.indexSlice hS rfl rfl Try.underlying27 info29 (by omega) (by omega))) (by decide) ?_; clear hS; intro aa hS
          refine sA hS hR (Yld.loadAgg hS rfl Try.underlying29 rfl info29 (by first | exact Rds.cons (Rd.blk (by repeat (first | with_reducible exact Pk.here | with_reducible apply Pk.there)) (by rfl)) (Rds.cons (Rd.blk (by repeat (first | with_reducible exact Pk.here | with_reducible apply Pk.there)) (by rfl)) (Rds.nil)) | exact Rds.rec (by repeat (first | with_reducible exact Pk.here | with_reducible apply Pk.there)) (by intro _; rfl) (by omega) | exact Rds.flat1 (by repeat (first | with_reducible exact Pk.here | with_reducible apply Pk.there)) (by intro _; rfl) (by omega)) (by rfl)) (by decide) ?_; clear hS; intro aa hS
          refine sB (Balloc hS hR info29 (by rfl) (by rfl) (by decide) ?_); clear hS hR; intro aa ww bb21 hS hR
          refine sB (Bstore hS hR rfl rfl (by rfl) info29 (by rfl) (by repeat (first | with_reducible exact Pk.here | with_reducible apply Pk.there)) (by rfl) (Nat.le_of_ble_eq_true rfl) ?_); clear hR; intro ww hR
          refine wpList_nil ?_
          refine hK443 _ _ ?_
          refine wp_seq_k ?_; intro K444 hK444
          refine wp_region_lit ?_
          refine sA hS hR (Yld.move hS rfl) (by decide) ?_; clear hS; intro aa hS
          refine sA hS hR (Yld.loadAgg hS rfl Try.underlying29 rfl info29 (by first | exact Rds.cons (Rd.blk (by repeat (first | with_reducible exact Pk.here | with_reducible apply Pk.there)) (by rfl)) (Rds.cons (Rd.blk (by repeat (first | with_reducible exact Pk.here | with_reducible apply Pk.there)) (by rfl)) (Rds.nil)) | exact Rds.rec (by repeat (first | with_reducible exact Pk.here | with_reducible apply Pk.there)) (by intro _; rfl) (by omega) | exact Rds.flat1 (by repeat (first | with_reducible exact Pk.here | with_reducible apply Pk.there)) (by intro _; rfl) (by omega)) (by rfl)) (by decide) ?_; clear hS; intro aa hS
          refine sB (Bcall hS rfl Try.call13 (Live_okA (hR.pk (r := arena 57 60 _ _) (by repeat (first | with_reducible exact Pk.here | with_reducible apply Pk.there)))) (by decide) ?_); clear hS; intro aa ww vv hS hp
          clear hR
          obtain ⟨rfl, hR⟩ := hp
          replace hS := hS.sayB (t := 162) false rfl (by exact decide_eq_false (fun e => by have h9 := (hcl.mem _ _).2 e; simp at h9))
          refine wpList_nil ?_
          refine hK444 _ _ ?_
          refine condF hS rfl ?_
          refine wp_skip ?_
          refine hK442 _ _ ?_
          refine wp_region_lit ?_
          refine sA hS hR ((by first | exact Yld.add64 hS rfl rfl (by omega) | exact Yld.add hS rfl rfl)) (by decide) ?_; clear hS; intro aa hS
          refine sA hS hR (Yld.move hS rfl) (by decide) ?_; clear hS; intro aa hS
          refine wpList_nil ?_
          
          refine ⟨i2 + 1, ?_, ?_, hS.le (Le.cons rfl (Le.nilapp (Le.cons rfl (Le.cons rfl (Le.cons rfl (Le.nil _)))))), hR.sub (Ex.nilapp (by repeat (first | with_reducible exact Ex.refl | (with_reducible apply Ex.take; · repeat (first | with_reducible exact Pk.here | with_reducible apply Pk.there)) | with_reducible apply Ex.drop)))⟩
          · omega
          · omega
        · intro hg hS
          refine condF hS rfl ?_
          refine wp_exit ?_
          refine hK437 _ _ ?_
          refine wp_seq_k ?_; intro K445 hK445
          refine wp_region_lit ?_
          refine sB (Bcall hS rfl Try.call12 (awake_ok hR) (by decide) ?_); clear hS; intro aa ww vv hS hp
          clear hR
          obtain ⟨rfl, hR⟩ := hp
          refine sA hS hR (Yld.assign hS rfl) (by decide) ?_; clear hS; intro aa hS
          refine wpList_nil ?_
          refine hK445 _ _ ?_
          refine wp_ret ?_
          repeat (first | with_reducible refine thenR ?_ | with_reducible refine blockR ?_ | with_reducible refine scopeR ?_)
          refine ret1 (fn := Try.f6) (e := .ret) (.inl rfl) Try.results6 hS hR ⟨_, (.tmp rfl), ?_⟩
          exact ⟨rfl, (hR.sub (by repeat (first | with_reducible exact Ex.refl | (with_reducible apply Ex.take; · repeat (first | with_reducible exact Pk.here | with_reducible apply Pk.there)) | with_reducible apply Ex.drop)))⟩
end Go.Proofs.Ytmlebadfedleoaa.Sx
