/-
  
-/
import Derived.Test.YtojeibjlkbffcaaLsA
import Derived.Test.YtojeibjlkbffcaaArgs2
namespace Go.Proofs.Ytojeibjlkbffcaa.Sx
open Go
set_option linter.unusedVariables false
set_option linter.unusedSimpArgs false

theorem info5 : Try.prog.info? 5 = some Try.t5 := by kernel_rfl
theorem info24 : Try.prog.info? 24 = some Try.t24 := by kernel_rfl

set_option maxHeartbeats 4000000 in
set_option maxRecDepth 20000 in
theorem seen_ok {W : World} {q : Option Addr} {n c : Nat} {xs : List (List Int)} (A1 : ArgS W [.u8] q n c xs) {l : List HP} {w : World} (hR : Sep (old W :: l) w) : CallR Try.prog 10 [.slice q n c] w (fun v w' => ∃ b ord T now tm, v = .tuple [.pointer (some ⟨b, 0, none⟩), .agg [.int .i64 (tm 0), .int .i64 (tm 1), .int .i64 (tm 2), .int .i64 (tm 3), .int .i64 (tm 4), .int .i64 (tm 5), .int .i64 (tm 6), .int .i64 (tm 7), .int .i64 (tm 8), .int .i64 (tm 9), .int .i64 (tm 10), .int .i64 (tm 11), .int .i64 (tm 12), .int .i64 (tm 13), .int .i64 (tm 14), .int .i64 (tm 15)].toArray, .bool true].toArray ∧ LI ord T now tm ∧ 0 ≤ now ∧ now ≤ 100 ∧ Sep (lruA 56 80 77 3 b 16 ord T now :: old W :: l) w') := by
  refine enter Try.func10 rfl Try.ntmps10 (Nat.le_of_ble_eq_true rfl) ?_; intro aa hS
  have hcap := A1.cap
  refine wp_seq_k ?_; intro K251 hK251
  refine wp_region_lit ?_
  refine sA hS hR (Yld.assign hS rfl) (by decide) ?_; clear hS; intro aa hS
  refine sB (Balloc hS hR info24 (by rfl) (by rfl) (by decide) ?_); clear hS hR; intro aa ww bb3 hS hR
  refine sA hS hR (Yld.assign hS rfl) (by decide) ?_; clear hS; intro aa hS
  refine wpList_nil ?_
  refine hK251 _ _ ?_
  refine wp_seq_k ?_; intro K252 hK252
  refine wp_region_lit ?_
  refine sB (Bcall hS rfl Try.call21 (lrNew_ok (S := 16) hR (by decide) (by decide)) (by decide) ?_); clear hS; intro aa ww vv hS hp
  clear hR
  obtain ⟨b, rfl, hR⟩ := hp
  refine sA hS hR (Yld.move hS rfl) (by decide) ?_; clear hS; intro aa hS
  refine sA hS hR (Yld.extract hS rfl rfl) (by decide) ?_; clear hS; intro aa hS
  refine sA hS hR (Yld.extract hS rfl rfl) (by decide) ?_; clear hS; intro aa hS
  refine sA hS hR (Yld.assign hS rfl) (by decide) ?_; clear hS; intro aa hS
  refine sA hS hR (Yld.assign hS rfl) (by decide) ?_; clear hS; intro aa hS
  refine wpList_nil ?_
  refine hK252 _ _ ?_
  refine wp_seq_k ?_; intro K253 hK253
  refine wp_region_lit ?_
  refine sB (Balloc hS hR info24 (by rfl) (by rfl) (by decide) ?_); clear hS hR; intro aa ww bb7 hS hR
  replace hR := hR.pk (r := blk bb7 _ _) (by repeat (first | with_reducible exact Pk.here | with_reducible apply Pk.there))
  change Sep (blk bb7 ((tab 16 (fun _ => 0)).flatMap e1) 24 :: _) _ at hR
  refine wpList_nil ?_
  refine hK253 _ _ ?_
  refine wp_seq_k ?_; intro K254 hK254
  refine wp_seq_k ?_; intro K255 hK255
  refine wp_region_lit ?_
  refine sA hS hR (Yld.move hS rfl) (by decide) ?_; clear hS; intro aa hS
  refine sA hS hR (Yld.neq hS rfl rfl) (by decide) ?_; clear hS; intro aa hS
  replace hS := hS.sayB (t := 18) false rfl (by decide)
  refine sA hS hR (Yld.move hS rfl) (by decide) ?_; clear hS; intro aa hS
  refine sAg hS hR rfl rfl (Yld.move hS rfl) (by decide) ?_; clear hS; intro aa hS
  refine sAg hS hR rfl rfl (Yld.eqlNil hS rfl rfl Try.underlying23) (by decide) ?_; clear hS; intro aa hS
  replace hS := hS.sayB (t := 21) false rfl (by rfl)
  refine sA hS hR (Yld.pickF hS rfl rfl) (by decide) ?_; clear hS; intro aa hS
  refine wpList_nil ?_
  refine hK255 _ _ ?_
  refine condF hS rfl ?_
  refine wp_skip ?_
  refine hK254 _ _ ?_
  refine wp_seq_k ?_; intro K256 hK256
  refine wp_seq_k ?_; intro K257 hK257
  refine wp_region_lit ?_
  refine sA hS hR (Yld.move hS rfl) (by decide) ?_; clear hS; intro aa hS
  refine sA hS hR (Yld.move hS rfl) (by decide) ?_; clear hS; intro aa hS
  refine sA hS hR (Yld.len hS rfl Try.underlying22) (by decide) ?_; clear hS; intro aa hS
  refine sA hS hR (Yld.min hS rfl rfl) (by decide) ?_; clear hS; intro aa hS
  refine sA hS hR (Yld.sliceHi hS rfl rfl Try.underlying22 info5 (by omega) (by omega)) (by decide) ?_; clear hS; intro aa hS
  obtain ⟨mm, hmm0, hmm1⟩ : ∃ y : Nat, (Min.min (n : Int) 100).toNat = y ∧ y ≤ n ∧ y ≤ 100 := ⟨_, rfl, by omega, by omega⟩
  replace hS := hS.say (t := 28) (.slice q mm c) rfl (by rw [hmm0])
  refine sA hS hR (Yld.len hS rfl Try.underlying22) (by decide) ?_; clear hS; intro aa hS
  refine sA hS hR (Yld.move hS rfl) (by decide) ?_; clear hS; intro aa hS
  refine wpList_nil ?_
  refine hK257 _ _ ?_
  refine wp_block ?_
  replace hR := hR.pk (r := blk bb7 ((tab 16 (fun _ => 0)).flatMap e1) 24) (by repeat (first | with_reducible exact Pk.here | with_reducible apply Pk.there))
  replace hR := hR.pk (r := lruA 56 80 77 3 b 16 [] (fun _ => 0) 0) (by repeat (first | with_reducible exact Pk.here | with_reducible apply Pk.there))
  refine loopI (X := Nat × List Nat × (Nat → Int) × Int × (Nat → Int)) [(3, _), (5, _), (7, _), (28, _), (29, _)] (fun x => [(30, .int .i64 (x.1 : Int))]) (fun x => [lruA 56 80 77 3 b 16 x.2.1 x.2.2.1 x.2.2.2.1, blk bb7 ((tab 16 x.2.2.2.2).flatMap e1) 24]) _ (fun x => x.1 ≤ mm ∧ LI x.2.1 x.2.2.1 x.2.2.2.1 x.2.2.2.2 ∧ 0 ≤ x.2.2.2.1 ∧ x.2.2.2.1 ≤ x.1) (fun x => mm - x.1) (0, [], fun _ => 0, 0, fun _ => 0) ⟨Nat.zero_le _, LI.new, by dsimp only; omega, by dsimp only; omega⟩ (hS.le (Le.cons rfl (Le.nilapp (Le.cons rfl (Le.cons rfl (Le.cons rfl (Le.cons rfl (Le.cons rfl (Le.nil _))))))))) hR ?_
  clear hS hR; rintro ⟨i, ord, T, now, tm⟩ aa ww hI hS hR; dsimp only [List.cons_append, List.nil_append] at hI hS hR
  refine wp_seq_k ?_; intro K259 hK259
  refine wp_region_lit ?_
  refine sA hS hR (Yld.lss hS rfl rfl) (by decide) ?_; clear hS; intro aa hS
  refine wpList_nil ?_
  refine hK259 _ _ ?_
  refine wp_seq_k ?_; intro K260 hK260
  refine hS.splitB (t := 31) rfl ?_ ?_ <;> clear hS
  · intro hg hS
    refine condT hS rfl ?_
    refine wp_skip ?_
    refine hK260 _ _ ?_
    refine wp_seq_k ?_; intro K261 hK261
    refine wp_block ?_
    refine wp_seq_k ?_; intro K262 hK262
    refine wp_region_lit ?_
    refine sA hS hR (Yld.move hS rfl) (by decide) ?_; clear hS; intro aa hS
    obtain ⟨ba, ia, ns, hq, hx, hl, hw, hc⟩ := A1.at (k := i) (by omega)
    obtain ⟨s0, rfl⟩ := len1 hl
    subst hq
    have hs0 : 0 ≤ s0 ∧ s0 ≤ 255 := hw.1
    refine sA hS hR ((by first | exact Yld.indexH (sz := 1) (_) hS rfl rfl Try.underlying22 info5 (by assumption) rfl (by first | rfl | omega) (by omega) | exact Yld.indexL (sz := 1) (_) hS rfl rfl Try.underlying22 info5 (by repeat (first | with_reducible exact Pk.here | with_reducible apply Pk.there)) rfl (by first | rfl | omega) (by omega) | exact Yld.indexB (sz := 1) (_) hS rfl rfl Try.underlying22 info5 rfl (by first | rfl | omega) (by omega) | exact Yld.indexSlice hS rfl rfl Try.underlying22 info5 (by omega) (by omega))) (by decide) ?_; clear hS; intro aa hS
    refine sA hS hR (Yld.load1 hS rfl Try.underlying5 rfl (Rds.rd (Rds.at (Rds.old (by repeat (first | with_reducible exact Pk.here | with_reducible apply Pk.there)) hc) (by rfl)) (by rfl))) (by decide) ?_; clear hS; intro aa hS
    refine sA hS hR (Yld.assign hS rfl) (by decide) ?_; clear hS; intro aa hS
    refine sA hS hR (Yld.assign hS rfl) (by decide) ?_; clear hS; intro aa hS
    refine wpList_nil ?_
    refine hK262 _ _ ?_
    refine wp_seq_k ?_; intro K263 hK263
    refine wp_seq_k ?_; intro K264 hK264
    refine wp_region_lit ?_
    refine sA hS hR (Yld.move hS rfl) (by decide) ?_; clear hS; intro aa hS
    refine sA hS hR (Yld.geq hS rfl rfl) (by decide) ?_; clear hS; intro aa hS
    refine wpList_nil ?_
    refine hK264 _ _ ?_
    refine hS.splitB (t := 36) rfl ?_ ?_ <;> clear hS
    · intro hg hS
      refine condT hS rfl ?_
      refine wp_seq_k ?_; intro K265 hK265
      refine wp_seq_k ?_; intro K266 hK266
      refine wp_region_lit ?_
      refine sA hS hR (Yld.move hS rfl) (by decide) ?_; clear hS; intro aa hS
      refine sA hS hR (Yld.move hS rfl) (by decide) ?_; clear hS; intro aa hS
      refine sA hS hR ((by first | exact Yld.rem64 hS rfl rfl (by omega) | exact Yld.rem hS rfl rfl (by omega))) (by decide) ?_; clear hS; intro aa hS
      obtain ⟨k, hk, hkl⟩ := emod_nat (n := s0) (d := 16) (m := 16) rfl (by omega)
      replace hS := hS.say (t := 39) (.int .u8 (k : Int)) rfl (by rw [hk])
      refine sA hS hR ((by first | exact Yld.to (Yld.convInt hS rfl rfl Try.underlying3) (congrArg (Value.int .i64) (IntWalk.i64_in _ (by omega))) | exact Yld.convInt hS rfl rfl Try.underlying3)) (by decide) ?_; clear hS; intro aa hS
      refine sB (Bcall hS rfl Try.call13 (lrOut_ok (i := (k : Int)) (hR.pk (r := lruA _ _ _ _ _ _ _ _ _) (by repeat (first | with_reducible exact Pk.here | with_reducible apply Pk.there)))) (by decide) ?_); clear hS; intro aa ww vv hS hp
      clear hR
      obtain ⟨rfl, hR⟩ := hp
      rw [show loutE 16 ord (k : Int) = if k ∈ ord then 0 else 6 from by rw [loutE, if_pos (by omega), Int.toNat_natCast]] at hS
      rw [show loutO 16 ord (k : Int) = ord.erase k from by rw [loutO, if_pos (by omega), Int.toNat_natCast]] at hR
      have hLI2 := hI.2.1.out hkl
      refine sA hS hR (Yld.assign hS rfl) (by decide) ?_; clear hS; intro aa hS
      refine wpList_nil ?_
      refine hK266 _ _ ?_
      refine wp_seq_k ?_; intro K267 hK267
      refine wp_region_lit ?_
      refine sA hS hR (Yld.move hS rfl) (by decide) ?_; clear hS; intro aa hS
      refine sA hS hR (Yld.eql hS rfl rfl) (by decide) ?_; clear hS; intro aa hS
      refine sA hS hR (Yld.move hS rfl) (by decide) ?_; clear hS; intro aa hS
      refine sA hS hR ((by first | exact Yld.rem64 hS rfl rfl (by omega) | exact Yld.rem hS rfl rfl (by omega))) (by decide) ?_; clear hS; intro aa hS
      replace hS := hS.say (t := 45) (.int .u8 (k : Int)) rfl (by rw [hk])
      refine sA hS hR (Yld.to (u := .pointer (some ⟨bb7, k, none⟩)) (Yld.indexArr hS rfl rfl Try.underlying24 info3 (by omega) (by omega)) (by have h1 : (Try.t3).size = 1 := rfl; rw [h1]; congr 3; omega)) (by decide) ?_; clear hS; intro aa hS
      refine sA hS hR (Yld.load1 hS rfl Try.underlying3 rfl (Rd.blk (v := .int .i64 (tm k)) (by repeat (first | with_reducible exact Pk.here | with_reducible apply Pk.there)) (tab_flat (by omega)))) (by decide) ?_; clear hS; intro aa hS
      refine sA hS hR (Yld.gtr hS rfl rfl) (by decide) ?_; clear hS; intro aa hS
      refine sA hS hR (Yld.neqB hS rfl rfl Try.underlying4) (by decide) ?_; clear hS; intro aa hS
      replace hS := hS.sayB (t := 49) false rfl (by rw [hI.2.1.eqb hkl]; simp)
      refine wpList_nil ?_
      refine hK267 _ _ ?_
      refine condF hS rfl ?_
      refine wp_skip ?_
      refine hK265 _ _ ?_
      refine wp_seq_k ?_; intro K268 hK268
      refine wp_region_lit ?_
      refine sA hS hR (Yld.move hS rfl) (by decide) ?_; clear hS; intro aa hS
      refine sA hS hR ((by first | exact Yld.rem64 hS rfl rfl (by omega) | exact Yld.rem hS rfl rfl (by omega))) (by decide) ?_; clear hS; intro aa hS
      replace hS := hS.say (t := 52) (.int .u8 (k : Int)) rfl (by rw [hk])
      refine sA hS hR (Yld.to (u := .pointer (some ⟨bb7, k, none⟩)) (Yld.indexArr hS rfl rfl Try.underlying24 info3 (by omega) (by omega)) (by have h1 : (Try.t3).size = 1 := rfl; rw [h1]; congr 3; omega)) (by decide) ?_; clear hS; intro aa hS
      refine sB (BstoreA hS hR rfl rfl info3 rfl (by repeat (first | with_reducible exact Pk.here | with_reducible apply Pk.there)) (by omega) ?_); clear hR; intro ww hR
      refine wpList_nil ?_
      refine hK268 _ _ ?_
      refine wp_exit ?_
      refine hK261 _ _ ?_
      refine wp_region_lit ?_
      refine sA hS hR ((by first | exact Yld.add64 hS rfl rfl (by omega) | exact Yld.add hS rfl rfl)) (by decide) ?_; clear hS; intro aa hS
      refine sA hS hR (Yld.move hS rfl) (by decide) ?_; clear hS; intro aa hS
      refine wpList_nil ?_
      
      refine ⟨(i + 1, _, _, _, _), ?_, ?_, hS.le (Le.cons rfl (Le.nilapp (Le.cons rfl (Le.cons rfl (Le.cons rfl (Le.cons rfl (Le.cons rfl (Le.nil _)))))))), hR.sub (Ex.take (by repeat (first | with_reducible exact Pk.here | with_reducible apply Pk.there)) (Ex.take (by repeat (first | with_reducible exact Pk.here | with_reducible apply Pk.there)) (Ex.nilapp (by repeat (first | with_reducible exact Ex.refl | (with_reducible apply Ex.take; · repeat (first | with_reducible exact Pk.here | with_reducible apply Pk.there)) | with_reducible apply Ex.drop)))))⟩
      · exact ⟨by omega, hLI2, by dsimp only; omega, by dsimp only; omega⟩
      · dsimp only; omega
    · intro hg hS
      refine condF hS rfl ?_
      refine wp_skip ?_
      refine hK263 _ _ ?_
      refine wp_seq_k ?_; intro K269 hK269
      refine wp_region_lit ?_
      refine sA hS hR (Yld.move hS rfl) (by decide) ?_; clear hS; intro aa hS
      refine sA hS hR (Yld.move hS rfl) (by decide) ?_; clear hS; intro aa hS
      refine sA hS hR ((by first | exact Yld.rem64 hS rfl rfl (by omega) | exact Yld.rem hS rfl rfl (by omega))) (by decide) ?_; clear hS; intro aa hS
      obtain ⟨k, hk, hkl⟩ := emod_nat (n := s0) (d := 16) (m := 16) rfl (by omega)
      replace hS := hS.say (t := 57) (.int .u8 (k : Int)) rfl (by rw [hk])
      refine sA hS hR ((by first | exact Yld.to (Yld.convInt hS rfl rfl Try.underlying3) (congrArg (Value.int .i64) (IntWalk.i64_in _ (by omega))) | exact Yld.convInt hS rfl rfl Try.underlying3)) (by decide) ?_; clear hS; intro aa hS
      refine sB (Bcall hS rfl Try.call19 (lrSee_ok (i := (k : Int)) (hR.pk (r := lruA _ _ _ _ _ _ _ _ _) (by repeat (first | with_reducible exact Pk.here | with_reducible apply Pk.there))) (by omega)) (by decide) ?_); clear hS; intro aa ww vv hS hp
      clear hR
      obtain ⟨rfl, hR⟩ := hp
      have hok : 0 ≤ (k : Int) ∧ (k : Int) < ((16 : Nat) : Int) := by omega
      rw [seeV, if_pos hok] at hS
      rw [seeO, seeT, seeN, if_pos hok, if_pos hok, if_pos hok, Int.toNat_natCast] at hR
      have hLI2 := hI.2.1.see hkl hI.2.2.1
      refine sA hS hR (Yld.move hS rfl) (by decide) ?_; clear hS; intro aa hS
      refine sA hS hR (Yld.extract hS rfl rfl) (by decide) ?_; clear hS; intro aa hS
      refine sA hS hR (Yld.extract hS rfl rfl) (by decide) ?_; clear hS; intro aa hS
      refine sA hS hR (Yld.assign hS rfl) (by decide) ?_; clear hS; intro aa hS
      refine sA hS hR (Yld.assign hS rfl) (by decide) ?_; clear hS; intro aa hS
      refine wpList_nil ?_
      refine hK269 _ _ ?_
      refine wp_seq_k ?_; intro K270 hK270
      refine wp_seq_k ?_; intro K271 hK271
      refine wp_region_lit ?_
      refine sA hS hR (Yld.move hS rfl) (by decide) ?_; clear hS; intro aa hS
      refine sA hS hR (Yld.neq hS rfl rfl) (by decide) ?_; clear hS; intro aa hS
      replace hS := hS.sayB (t := 63) false rfl (by decide)
      refine sA hS hR (Yld.move hS rfl) (by decide) ?_; clear hS; intro aa hS
      refine sAg hS hR rfl rfl (Yld.move hS rfl) (by decide) ?_; clear hS; intro aa hS
      refine sAg hS hR rfl rfl (Yld.move hS rfl) (by decide) ?_; clear hS; intro aa hS
      refine sAg hS hR rfl rfl ((by first | exact Yld.add64 hS rfl rfl (by omega) | exact Yld.add hS rfl rfl)) (by decide) ?_; clear hS; intro aa hS
      refine sAg hS hR rfl rfl (Yld.gtr hS rfl rfl) (by decide) ?_; clear hS; intro aa hS
      replace hS := hS.sayB (t := 68) false rfl (by exact decide_eq_false (by omega))
      refine sA hS hR (Yld.pickF hS rfl rfl) (by decide) ?_; clear hS; intro aa hS
      refine wpList_nil ?_
      refine hK271 _ _ ?_
      refine condF hS rfl ?_
      refine wp_skip ?_
      refine hK270 _ _ ?_
      refine wp_region_lit ?_
      refine sA hS hR (Yld.move hS rfl) (by decide) ?_; clear hS; intro aa hS
      refine sA hS hR ((by first | exact Yld.rem64 hS rfl rfl (by omega) | exact Yld.rem hS rfl rfl (by omega))) (by decide) ?_; clear hS; intro aa hS
      replace hS := hS.say (t := 72) (.int .u8 (k : Int)) rfl (by rw [hk])
      refine sA hS hR (Yld.move hS rfl) (by decide) ?_; clear hS; intro aa hS
      refine sA hS hR (Yld.to (u := .pointer (some ⟨bb7, k, none⟩)) (Yld.indexArr hS rfl rfl Try.underlying24 info3 (by omega) (by omega)) (by have h1 : (Try.t3).size = 1 := rfl; rw [h1]; congr 3; omega)) (by decide) ?_; clear hS; intro aa hS
      refine sB (BstoreA hS hR rfl rfl info3 rfl (by repeat (first | with_reducible exact Pk.here | with_reducible apply Pk.there)) (by omega) ?_); clear hR; intro ww hR
      refine wpList_nil ?_
      refine hK261 _ _ ?_
      refine wp_region_lit ?_
      refine sA hS hR ((by first | exact Yld.add64 hS rfl rfl (by omega) | exact Yld.add hS rfl rfl)) (by decide) ?_; clear hS; intro aa hS
      refine sA hS hR (Yld.move hS rfl) (by decide) ?_; clear hS; intro aa hS
      refine wpList_nil ?_
      
      refine ⟨(i + 1, _, _, _, _), ?_, ?_, hS.le (Le.cons rfl (Le.nilapp (Le.cons rfl (Le.cons rfl (Le.cons rfl (Le.cons rfl (Le.cons rfl (Le.nil _)))))))), hR.sub (Ex.take (by repeat (first | with_reducible exact Pk.here | with_reducible apply Pk.there)) (Ex.take (by repeat (first | with_reducible exact Pk.here | with_reducible apply Pk.there)) (Ex.nilapp (by repeat (first | with_reducible exact Ex.refl | (with_reducible apply Ex.take; · repeat (first | with_reducible exact Pk.here | with_reducible apply Pk.there)) | with_reducible apply Ex.drop)))))⟩
      · exact ⟨by omega, hLI2, by dsimp only; omega, by dsimp only; omega⟩
      · dsimp only; omega
  · intro hg hS
    refine condF hS rfl ?_
    refine wp_exit ?_
    refine hK256 _ _ ?_
    refine wp_seq_k ?_; intro K272 hK272
    refine drawn (by kernel_rfl) hR (Ex.of_pk (r := blk bb3 _ _) (by repeat (first | with_reducible exact Pk.here | with_reducible apply Pk.there))) ?_; clear hR; intro ww hR hR0
    refine dA 0 rfl (by kernel_rfl) (by kernel_rfl) (by kernel_rfl) (fun _ _ _ h => h) hS hR0 (Yld.move hS rfl) (by decide) ?_; clear hS; intro aa hS
    refine dA 1 rfl (by kernel_rfl) (by kernel_rfl) (by kernel_rfl) (fun _ _ _ h => h) hS hR0 (Yld.loadAgg hS rfl Try.underlying24 rfl info24 (by first | exact Rds.cons (Rd.blk (by repeat (first | with_reducible exact Pk.here | with_reducible apply Pk.there)) (by rfl)) (Rds.cons (Rd.blk (by repeat (first | with_reducible exact Pk.here | with_reducible apply Pk.there)) (by rfl)) (Rds.cons (Rd.blk (by repeat (first | with_reducible exact Pk.here | with_reducible apply Pk.there)) (by rfl)) (Rds.cons (Rd.blk (by repeat (first | with_reducible exact Pk.here | with_reducible apply Pk.there)) (by rfl)) (Rds.cons (Rd.blk (by repeat (first | with_reducible exact Pk.here | with_reducible apply Pk.there)) (by rfl)) (Rds.cons (Rd.blk (by repeat (first | with_reducible exact Pk.here | with_reducible apply Pk.there)) (by rfl)) (Rds.cons (Rd.blk (by repeat (first | with_reducible exact Pk.here | with_reducible apply Pk.there)) (by rfl)) (Rds.cons (Rd.blk (by repeat (first | with_reducible exact Pk.here | with_reducible apply Pk.there)) (by rfl)) (Rds.cons (Rd.blk (by repeat (first | with_reducible exact Pk.here | with_reducible apply Pk.there)) (by rfl)) (Rds.cons (Rd.blk (by repeat (first | with_reducible exact Pk.here | with_reducible apply Pk.there)) (by rfl)) (Rds.cons (Rd.blk (by repeat (first | with_reducible exact Pk.here | with_reducible apply Pk.there)) (by rfl)) (Rds.cons (Rd.blk (by repeat (first | with_reducible exact Pk.here | with_reducible apply Pk.there)) (by rfl)) (Rds.cons (Rd.blk (by repeat (first | with_reducible exact Pk.here | with_reducible apply Pk.there)) (by rfl)) (Rds.cons (Rd.blk (by repeat (first | with_reducible exact Pk.here | with_reducible apply Pk.there)) (by rfl)) (Rds.cons (Rd.blk (by repeat (first | with_reducible exact Pk.here | with_reducible apply Pk.there)) (by rfl)) (Rds.cons (Rd.blk (by repeat (first | with_reducible exact Pk.here | with_reducible apply Pk.there)) (by rfl)) (Rds.nil)))))))))))))))) | exact Rds.rec (by repeat (first | with_reducible exact Pk.here | with_reducible apply Pk.there)) (by intro _; rfl) (by omega) | exact Rds.flat1 (by repeat (first | with_reducible exact Pk.here | with_reducible apply Pk.there)) (by intro _; rfl) (by omega)) (by rfl)) (by decide) ?_; clear hS; intro aa hS
    refine dA 2 rfl (by kernel_rfl) (by kernel_rfl) (by kernel_rfl) (fun _ _ _ h => h) hS hR0 (Yld.assign hS rfl) (by decide) ?_; clear hS; intro aa hS
    refine dOne (i := 3) (by kernel_rfl) ?_
    refine dop rfl (Bstore hS hR rfl rfl (by rfl) info24 (by rfl) (by repeat (first | with_reducible exact Pk.here | with_reducible apply Pk.there)) (by rfl) (Nat.le_of_ble_eq_true rfl) ?_); clear hR hR0; intro ww hR
    refine dnext (hR.sub (by repeat (first | with_reducible exact Ex.refl | (with_reducible apply Ex.take; · repeat (first | with_reducible exact Pk.here | with_reducible apply Pk.there)) | with_reducible apply Ex.drop))) ?_; intro hR0
    refine dA 4 rfl (by kernel_rfl) (by kernel_rfl) (by kernel_rfl) (fun _ _ _ h => h) hS hR0 (Yld.assign hS rfl) (by decide) ?_; clear hS; intro aa hS
    refine wpAnyH_done (by kernel_rfl) ?_ _; clear hR0
    refine hK272 _ _ ?_
    refine wp_ret ?_
    repeat (first | with_reducible refine thenR ?_ | with_reducible refine blockR ?_ | with_reducible refine scopeR ?_)
    refine retN (fn := Try.f10) (e := .ret) (.inl rfl) Try.results10 hS hR ⟨_, .cons (.tmp rfl) (.cons (.agg rfl Try.underlying24 rfl info24 (Rds.cons (Rd.blk (by repeat (first | with_reducible exact Pk.here | with_reducible apply Pk.there)) (by rfl)) (Rds.cons (Rd.blk (by repeat (first | with_reducible exact Pk.here | with_reducible apply Pk.there)) (by rfl)) (Rds.cons (Rd.blk (by repeat (first | with_reducible exact Pk.here | with_reducible apply Pk.there)) (by rfl)) (Rds.cons (Rd.blk (by repeat (first | with_reducible exact Pk.here | with_reducible apply Pk.there)) (by rfl)) (Rds.cons (Rd.blk (by repeat (first | with_reducible exact Pk.here | with_reducible apply Pk.there)) (by rfl)) (Rds.cons (Rd.blk (by repeat (first | with_reducible exact Pk.here | with_reducible apply Pk.there)) (by rfl)) (Rds.cons (Rd.blk (by repeat (first | with_reducible exact Pk.here | with_reducible apply Pk.there)) (by rfl)) (Rds.cons (Rd.blk (by repeat (first | with_reducible exact Pk.here | with_reducible apply Pk.there)) (by rfl)) (Rds.cons (Rd.blk (by repeat (first | with_reducible exact Pk.here | with_reducible apply Pk.there)) (by rfl)) (Rds.cons (Rd.blk (by repeat (first | with_reducible exact Pk.here | with_reducible apply Pk.there)) (by rfl)) (Rds.cons (Rd.blk (by repeat (first | with_reducible exact Pk.here | with_reducible apply Pk.there)) (by rfl)) (Rds.cons (Rd.blk (by repeat (first | with_reducible exact Pk.here | with_reducible apply Pk.there)) (by rfl)) (Rds.cons (Rd.blk (by repeat (first | with_reducible exact Pk.here | with_reducible apply Pk.there)) (by rfl)) (Rds.cons (Rd.blk (by repeat (first | with_reducible exact Pk.here | with_reducible apply Pk.there)) (by rfl)) (Rds.cons (Rd.blk (by repeat (first | with_reducible exact Pk.here | with_reducible apply Pk.there)) (by rfl)) (Rds.cons (Rd.blk (by repeat (first | with_reducible exact Pk.here | with_reducible apply Pk.there)) (by rfl)) (Rds.nil))))))))))))))))) (by rfl)) (.cons (.tmp rfl) (.nil))), rfl, ?_⟩
    try dsimp only [lay, List.set] at hR
    exact ⟨_, _, _, _, tm, rfl, hI.2.1, hI.2.2.1, by omega, (hR.sub (by repeat (first | with_reducible exact Ex.refl | (with_reducible apply Ex.take; · repeat (first | with_reducible exact Pk.here | with_reducible apply Pk.there)) | with_reducible apply Ex.drop)))⟩
end Go.Proofs.Ytojeibjlkbffcaa.Sx
