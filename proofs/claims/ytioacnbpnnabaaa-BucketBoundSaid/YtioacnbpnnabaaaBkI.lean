/-
  
-/
import Derived.Test.YtioacnbpnnabaaaBkH
namespace Go.Proofs.Ytioacnbpnnabaaa.Sx
open Go
set_option linter.unusedVariables false
set_option linter.unusedSimpArgs false

theorem bld45_0_1 (x0 : Int) (x1 : Int) (w : World) : (Instr.build 45 [(0, .int .i64 x0), (1, .int .i64 x1)].toArray).run Try.prog w = .ok (.agg [.int .i64 x0, .int .i64 x1].toArray) w := by kernel_rfl
theorem bls39_0_  (w : World) : (Instr.buildSlice 39 0 [].toArray).run Try.prog w = .ok (.slice (some ⟨w.heap.size, 0, none⟩) 0 0) (w.alloc (.cells ([] : List Value).toArray 45)) := by kernel_rfl
theorem bls39_1_0 (x0_0 : Int) (x0_1 : Int) (w : World) : (Instr.buildSlice 39 1 [(0, .agg [.int .i64 x0_0, .int .i64 x0_1].toArray)].toArray).run Try.prog w = .ok (.slice (some ⟨w.heap.size, 0, none⟩) 1 1) (w.alloc (.cells ([.int .i64 x0_0, .int .i64 x0_1] : List Value).toArray 45)) := by kernel_rfl

set_option maxHeartbeats 8000000 in
set_option maxRecDepth 20000 in
theorem BucketBound_ok {n0 n1 n2 z : Int} {q : Option Addr} {n c : Nat} {xs : List (List Int)} {W : World} (A1 : ArgS W [.i64, .i64] q n c xs) {l : List HP} {w : World} (hR : Sep (old W :: l) w) : CallR Try.prog 5 [.agg [.int .i64 n0, .int .i64 n1, .int .i64 n2].toArray, .int .i64 z, .slice q n c] w (fun v w' => v = .bool true ∧ Sep (old W :: l) w') := by
  refine enter Try.func5 rfl Try.ntmps5 (Nat.le_of_ble_eq_true rfl) ?_; intro aa hS
  have hcap := A1.cap
  have e0 := emod_bd (n := z) (d := 1073741824) (by omega)
  refine wp_seq_k ?_; intro K376 hK376
  refine wp_region_lit ?_
  refine sB (Bbox hS hR rfl (by rfl) (by decide) ?_); clear hS hR; intro aa ww bb3 hS hR
  refine sA hS hR (Yld.assign hS rfl) (by decide) ?_; clear hS; intro aa hS
  refine wpList_nil ?_
  refine hK376 _ _ ?_
  refine wp_seq_k ?_; intro K377 hK377
  refine wp_seq_k ?_; intro K378 hK378
  refine wp_region_lit ?_
  refine sB (Bcall hS rfl Try.call12 (awake_ok hR) (by decide) ?_); clear hS; intro aa ww vv hS hp
  clear hR
  obtain ⟨rfl, hR⟩ := hp
  refine sA hS hR (Yld.not hS rfl) (by decide) ?_; clear hS; intro aa hS
  refine wpList_nil ?_
  refine hK378 _ _ ?_
  refine condF hS rfl ?_
  refine wp_skip ?_
  refine hK377 _ _ ?_
  refine wp_seq_k ?_; intro K379 hK379
  refine wp_region_lit ?_
  refine sA hS hR (Yld.loadAgg hS rfl Try.underlying32 rfl info32 (Rds.cons (Rd.blk (by repeat (first | with_reducible exact Pk.here | with_reducible apply Pk.there)) (by rfl)) (Rds.cons (Rd.blk (by repeat (first | with_reducible exact Pk.here | with_reducible apply Pk.there)) (by rfl)) (Rds.cons (Rd.blk (by repeat (first | with_reducible exact Pk.here | with_reducible apply Pk.there)) (by rfl)) (Rds.nil)))) (by rfl)) (by decide) ?_; clear hS; intro aa hS
  refine sB (Bcall hS rfl Try.call14 (made_ok hR) (by decide) ?_); clear hS; intro aa ww vv hS hp
  clear hR
  obtain ⟨⟨t, p, b, hM, rfl⟩, hR⟩ := hp
  have hmp := hM.most
  have hMd : 1 ≤ t ∧ t ≤ 100 ∧ 1 ≤ p ∧ p ≤ 1000 ∧ 1 ≤ b ∧ b ≤ 100 := hM
  refine sB (Balloc hS hR info23 (by rfl) (by rfl) (by decide) ?_); clear hS hR; intro aa ww bb7 hS hR
  refine sB (Bstore hS hR rfl rfl (by rfl) info23 (by rfl) (by repeat (first | with_reducible exact Pk.here | with_reducible apply Pk.there)) (by rfl) (Nat.le_of_ble_eq_true rfl) ?_); clear hR; intro ww hR
  refine wpList_nil ?_
  refine hK379 _ _ ?_
  refine wp_seq_k ?_; intro K380 hK380
  refine wp_region_lit ?_
  refine sA hS hR (Yld.move hS rfl) (by decide) ?_; clear hS; intro aa hS
  refine sB (Bcall hS rfl Try.call15 (modulo_ok hR (by omega)) (by decide) ?_); clear hS; intro aa ww vv hS hp
  clear hR
  obtain ⟨rfl, hR⟩ := hp
  obtain ⟨st, hst, bst⟩ : ∃ y, z % 1073741824 = y ∧ 0 ≤ y ∧ y < 1073741824 := ⟨_, rfl, by omega⟩
  replace hS := hS.say (t := 22) (.int .i64 st) rfl (by rw [hst])
  refine sA hS hR (Yld.assign hS rfl) (by decide) ?_; clear hS; intro aa hS
  refine wpList_nil ?_
  refine hK380 _ _ ?_
  refine wp_seq_k ?_; intro K381 hK381
  refine wp_region_lit ?_
  refine sA hS hR (Yld.loadAgg hS rfl Try.underlying23 rfl info23 (Rds.cons (Rd.blk (by repeat (first | with_reducible exact Pk.here | with_reducible apply Pk.there)) (by rfl)) (Rds.cons (Rd.blk (by repeat (first | with_reducible exact Pk.here | with_reducible apply Pk.there)) (by rfl)) (Rds.cons (Rd.blk (by repeat (first | with_reducible exact Pk.here | with_reducible apply Pk.there)) (by rfl)) (Rds.nil)))) (by rfl)) (by decide) ?_; clear hS; intro aa hS
  refine sA hS hR (Yld.move hS rfl) (by decide) ?_; clear hS; intro aa hS
  refine sB (Bcall hS rfl Try.call16 (Full_ok hR) (by decide) ?_); clear hS; intro aa ww vv hS hp
  clear hR
  obtain ⟨rfl, hR⟩ := hp
  rw [full_ok hM.rr (by omega) (by omega)] at hS; dsimp only at hS
  refine sA hS hR (Yld.move hS rfl) (by decide) ?_; clear hS; intro aa hS
  refine sA hS hR (Yld.extract hS rfl rfl) (by decide) ?_; clear hS; intro aa hS
  refine sA hS hR (Yld.extract hS rfl rfl) (by decide) ?_; clear hS; intro aa hS
  refine sB (Balloc hS hR info25 (by rfl) (by rfl) (by decide) ?_); clear hS hR; intro aa ww bb8 hS hR
  refine sB (Bstore hS hR rfl rfl (by rfl) info25 (by rfl) (by repeat (first | with_reducible exact Pk.here | with_reducible apply Pk.there)) (by rfl) (Nat.le_of_ble_eq_true rfl) ?_); clear hR; intro ww hR
  refine sA hS hR (Yld.assign hS rfl) (by decide) ?_; clear hS; intro aa hS
  refine wpList_nil ?_
  refine hK381 _ _ ?_
  refine wp_seq_k ?_; intro K382 hK382
  refine wp_seq_k ?_; intro K383 hK383
  refine wp_region_lit ?_
  refine sA hS hR (Yld.move hS rfl) (by decide) ?_; clear hS; intro aa hS
  refine sA hS hR (Yld.neq hS rfl rfl) (by decide) ?_; clear hS; intro aa hS
  replace hS := hS.sayB (t := 30) false rfl (by simp)
  refine wpList_nil ?_
  refine hK383 _ _ ?_
  refine condF hS rfl ?_
  refine wp_skip ?_
  refine hK382 _ _ ?_
  refine wp_seq_k ?_; intro K384 hK384
  refine wp_region_lit ?_
  refine sA hS hR (Yld.move hS rfl) (by decide) ?_; clear hS; intro aa hS
  refine sB (BbuildSlice hS hR rfl (bls39_0_) (by decide) ?_); clear hS hR; intro aa ww bb32 hS hR
  refine sA hS hR (Yld.assign hS rfl) (by decide) ?_; clear hS; intro aa hS
  refine sA hS hR (Yld.assign hS rfl) (by decide) ?_; clear hS; intro aa hS
  refine wpList_nil ?_
  refine hK384 _ _ ?_
  refine wp_seq_k ?_; intro K385 hK385
  refine wp_seq_k ?_; intro K386 hK386
  refine wp_region_lit ?_
  refine sA hS hR (Yld.move hS rfl) (by decide) ?_; clear hS; intro aa hS
  refine sA hS hR (Yld.move hS rfl) (by decide) ?_; clear hS; intro aa hS
  refine sA hS hR (Yld.len hS rfl Try.underlying33) (by decide) ?_; clear hS; intro aa hS
  refine sA hS hR (Yld.min hS rfl rfl) (by decide) ?_; clear hS; intro aa hS
  refine sA hS hR (Yld.sliceHi hS rfl rfl Try.underlying33 info41 (by omega) (by omega)) (by decide) ?_; clear hS; intro aa hS
  obtain ⟨m, hm0, hm1⟩ : ∃ m : Nat, (Min.min (n : Int) 40).toNat = m ∧ m ≤ n ∧ m ≤ 40 := ⟨_, rfl, by omega, by omega⟩
  replace hS := hS.say (t := 37) (.slice q m c) rfl (by rw [hm0])
  refine sA hS hR (Yld.len hS rfl Try.underlying33) (by decide) ?_; clear hS; intro aa hS
  refine sA hS hR (Yld.move hS rfl) (by decide) ?_; clear hS; intro aa hS
  refine wpList_nil ?_
  refine hK386 _ _ ?_
  refine wp_block ?_
  dsimp only [lay, List.set] at hR
  replace hR := hR.pk (r := blk bb32 [] 45) (by repeat (first | with_reducible exact Pk.here | with_reducible apply Pk.there))
  replace hR := hR.slsB (cs := ([] : List (Int × Int)).flatMap e2) (n := 0) (sz := 2) rfl
  replace hR := hR.pk (r := sls (some ⟨bb32, 0, none⟩) 0 0 45 2 (([] : List (Int × Int)).flatMap e2)) (by repeat (first | with_reducible exact Pk.here | with_reducible apply Pk.there))
  replace hR := hR.pk (r := blk bb8 [.int .i64 (b * p), .int .i64 st] 25) (by repeat (first | with_reducible exact Pk.here | with_reducible apply Pk.there))
  refine loopI (X := Nat × Int × Int × Int × List (Int × Int) × Option Addr × Nat) (without [6, 10, 11, 13, 14, 15, 16, 39, 40, 41, 42, 43, 44, 45, 46, 47, 48, 49, 50, 51, 52, 53, 54, 55, 56, 57, 58, 59, 60, 61, 62, 63, 64, 65, 66, 67, 68, 69, 70, 71, 72, 73, 74, 75, 76, 77, 78, 79, 80, 81, 82, 83, 84, 85, 86, 87, 88, 89, 90, 91, 92] _) (fun x => [(10, .int .i64 x.2.1), (11, .slice x.2.2.2.2.2.1 x.2.2.2.2.1.length x.2.2.2.2.2.2), (39, .int .i64 (x.1 : Int))]) (fun x => [blk bb8 [.int .i64 x.2.2.1, .int .i64 x.2.2.2.1] 25, sls x.2.2.2.2.2.1 x.2.2.2.2.1.length x.2.2.2.2.2.2 45 2 (x.2.2.2.2.1.flatMap e2)]) _ (fun x => x.1 ≤ m ∧ RB t p b x.2.2.1 x.2.2.2.1 ∧ x.2.2.2.1 ≤ x.2.1 ∧ x.2.1 ≤ st + 2000 * x.1 ∧ x.2.2.2.2.1.length ≤ x.1 ∧ Inv t p b st x.2.2.2.2.1 x.2.2.1 x.2.2.2.1) (fun x => m - x.1) (0, st, b * p, st, [], some ⟨bb32, 0, none⟩, 0) (by dsimp only; exact ⟨by omega, hM.rb (by omega) (by omega), by omega, by omega, by simp, Inv.first hM.rr⟩) (hS.le (by refine (Le.cons rfl (Le.cons rfl (Le.cons rfl (Le.nilapp (Le.without _ _))))))) hR ?_
  clear hS hR; rintro ⟨k, now, lv, at_, gs, r, cg⟩ aa ww hI hS hR; dsimp only [List.cons_append, List.nil_append] at hI hS hR
  have hI0 := hI
  have hat : 0 ≤ at_ := hI.2.1.2.2.2.1
  refine wp_seq_k ?_; intro K388 hK388
  refine wp_region_lit ?_
  refine sA hS hR (Yld.lss hS rfl rfl) (by decide) ?_; clear hS; intro aa hS
  refine wpList_nil ?_
  refine hK388 _ _ ?_
  refine wp_seq_k ?_; intro K389 hK389
  refine hS.splitB (t := 40) rfl ?_ ?_ <;> clear hS
  · intro hg hS
    refine condT hS rfl ?_
    refine wp_skip ?_
    refine hK389 _ _ ?_
    refine wp_seq_k ?_; intro K390 hK390
    refine wp_block ?_
    refine wp_seq_k ?_; intro K391 hK391
    refine wp_region_lit ?_
    obtain ⟨ba, ia, ns, hq, hx, hl, hw, hc⟩ := A1.at (k := k) (by omega)
    obtain ⟨s0, s1, rfl⟩ := len2 hl
    subst hq
    refine sA hS hR (Yld.indexSlice hS rfl rfl Try.underlying33 info41 (by omega) (by omega)) (by decide) ?_; clear hS; intro aa hS
    refine sA hS hR (Yld.loadAgg (vs := [.int .i64 s0, .int .i64 s1]) hS rfl Try.underlying41 rfl info41 (Rds.at (Rds.old (by repeat (first | with_reducible exact Pk.here | with_reducible apply Pk.there)) hc) (by rfl)) (by rfl)) (by decide) ?_; clear hS; intro aa hS
    refine sB (Balloc hS hR info41 (by rfl) (by rfl) (by decide) ?_); clear hS hR; intro aa ww bb13 hS hR
    refine sB (Bstore hS hR rfl rfl (by rfl) info41 (by rfl) (by repeat (first | with_reducible exact Pk.here | with_reducible apply Pk.there)) (by rfl) (Nat.le_of_ble_eq_true rfl) ?_); clear hR; intro ww hR
    refine wpList_nil ?_
    refine hK391 _ _ ?_
    refine wp_seq_k ?_; intro K392 hK392
    refine wp_region_lit ?_
    refine sA hS hR (Yld.move hS rfl) (by decide) ?_; clear hS; intro aa hS
    refine sA hS hR (Yld.fieldAddr hS rfl 0 Try.underlying41 rfl rfl info3 (by decide)) (by decide) ?_; clear hS; intro aa hS
    refine sA hS hR (Yld.load1 hS rfl Try.underlying3 rfl (Rd.blk (by repeat (first | with_reducible exact Pk.here | with_reducible apply Pk.there)) (by rfl))) (by decide) ?_; clear hS; intro aa hS
    refine sB (Bcall hS rfl Try.call15 (modulo_ok hR (by omega)) (by decide) ?_); clear hS; intro aa ww vv hS hp
    clear hR
    obtain ⟨rfl, hR⟩ := hp
    refine sA hS hR ((by first | exact Yld.add64 hS rfl rfl (by omega) | exact Yld.add hS rfl rfl)) (by decide) ?_; clear hS; intro aa hS
    obtain ⟨nw, hnw, bnw⟩ : ∃ y, now + s0 % 2000 = y ∧ now ≤ y ∧ y ≤ now + 2000 := ⟨_, rfl, by omega⟩
    replace hS := hS.say (t := 47) (.int .i64 nw) rfl (by rw [hnw])
    refine sA hS hR (Yld.assign hS rfl) (by decide) ?_; clear hS; intro aa hS
    refine wpList_nil ?_
    refine hK392 _ _ ?_
    refine wp_seq_k ?_; intro K393 hK393
    refine wp_region_lit ?_
    refine sA hS hR (Yld.fieldAddr hS rfl 1 Try.underlying41 rfl rfl info3 (by decide)) (by decide) ?_; clear hS; intro aa hS
    refine sA hS hR (Yld.load1 hS rfl Try.underlying3 rfl (Rd.blk (by repeat (first | with_reducible exact Pk.here | with_reducible apply Pk.there)) (by rfl))) (by decide) ?_; clear hS; intro aa hS
    refine sA hS hR (Yld.fieldAddr hS rfl 2 Try.underlying23 rfl rfl info3 (by decide)) (by decide) ?_; clear hS; intro aa hS
    refine sA hS hR (Yld.load1 hS rfl Try.underlying3 rfl (Rd.blk (by repeat (first | with_reducible exact Pk.here | with_reducible apply Pk.there)) (by rfl))) (by decide) ?_; clear hS; intro aa hS
    refine sB (Bcall hS rfl Try.call15 (modulo_ok hR (by omega)) (by decide) ?_); clear hS; intro aa ww vv hS hp
    clear hR
    obtain ⟨rfl, hR⟩ := hp
    have em2 := emod_bd (n := s1) (d := b) (by omega)
    refine sA hS hR ((by first | exact Yld.add64 hS rfl rfl (by omega) | exact Yld.add hS rfl rfl)) (by decide) ?_; clear hS; intro aa hS
    obtain ⟨kk, hkk, bkk⟩ : ∃ y, 1 + s1 % b = y ∧ 1 ≤ y ∧ y ≤ b := ⟨_, rfl, by omega⟩
    replace hS := hS.say (t := 53) (.int .i64 kk) rfl (by rw [hkk])
    refine sA hS hR (Yld.assign hS rfl) (by decide) ?_; clear hS; intro aa hS
    refine wpList_nil ?_
    refine hK393 _ _ ?_
    refine wp_seq_k ?_; intro K394 hK394
    refine wp_region_lit ?_
    refine sA hS hR (Yld.loadAgg hS rfl Try.underlying23 rfl info23 (Rds.cons (Rd.blk (by repeat (first | with_reducible exact Pk.here | with_reducible apply Pk.there)) (by rfl)) (Rds.cons (Rd.blk (by repeat (first | with_reducible exact Pk.here | with_reducible apply Pk.there)) (by rfl)) (Rds.cons (Rd.blk (by repeat (first | with_reducible exact Pk.here | with_reducible apply Pk.there)) (by rfl)) (Rds.nil)))) (by rfl)) (by decide) ?_; clear hS; intro aa hS
    refine sA hS hR (Yld.loadAgg hS rfl Try.underlying25 rfl info25 (Rds.cons (Rd.blk (by repeat (first | with_reducible exact Pk.here | with_reducible apply Pk.there)) (by rfl)) (Rds.cons (Rd.blk (by repeat (first | with_reducible exact Pk.here | with_reducible apply Pk.there)) (by rfl)) (Rds.nil))) (by rfl)) (by decide) ?_; clear hS; intro aa hS
    refine sA hS hR (Yld.move hS rfl) (by decide) ?_; clear hS; intro aa hS
    refine sA hS hR (Yld.move hS rfl) (by decide) ?_; clear hS; intro aa hS
    refine sB (Bcall hS rfl Try.call17 (Take_ok hR) (by decide) ?_); clear hS; intro aa ww vv hS hp
    clear hR
    obtain ⟨rfl, hR⟩ := hp
    have hT : RT t p b lv at_ nw := ⟨hI0.2.1, by omega, by omega⟩
    obtain ⟨L, A, E, hk1, hE⟩ := bound_take (n := kk) hI0.2.2.2.2.2 hT (by omega) (by omega)
    rw [hk1] at hS; dsimp only at hS
    refine sA hS hR (Yld.move hS rfl) (by decide) ?_; clear hS; intro aa hS
    refine sA hS hR (Yld.extract hS rfl rfl) (by decide) ?_; clear hS; intro aa hS
    refine sA hS hR (Yld.extract hS rfl rfl) (by decide) ?_; clear hS; intro aa hS
    refine sB (Balloc hS hR info25 (by rfl) (by rfl) (by decide) ?_); clear hS hR; intro aa ww bb15 hS hR
    refine sB (Bstore hS hR rfl rfl (by rfl) info25 (by rfl) (by repeat (first | with_reducible exact Pk.here | with_reducible apply Pk.there)) (by rfl) (Nat.le_of_ble_eq_true rfl) ?_); clear hR; intro ww hR
    refine sA hS hR (Yld.assign hS rfl) (by decide) ?_; clear hS; intro aa hS
    refine wpList_nil ?_
    refine hK394 _ _ ?_
    refine wp_seq_k ?_; intro K395 hK395
    refine wp_seq_k ?_; intro K396 hK396
    refine wp_region_lit ?_
    refine sA hS hR (Yld.move hS rfl) (by decide) ?_; clear hS; intro aa hS
    refine sA hS hR (Yld.neq hS rfl rfl) (by decide) ?_; clear hS; intro aa hS
    refine sA hS hR (Yld.move hS rfl) (by decide) ?_; clear hS; intro aa hS
    refine hS.splitB (t := 64) rfl ?_ ?_ <;> clear hS
    · intro hg hS
      have h6 : E = 6 := by rcases hE with ⟨h, _⟩ | ⟨h, _⟩ <;> omega
      have hRB := hI0.2.1
      have hI10 := hI0.2.2.2.2.2
      refine sAg hS hR rfl rfl (Yld.move hS rfl) (by decide) ?_; clear hS; intro aa hS
      refine sAg hS hR rfl rfl (Yld.neq hS rfl rfl) (by decide) ?_; clear hS; intro aa hS
      replace hS := hS.sayB (t := 66) false rfl (by simp [h6])
      refine sA hS hR (Yld.pickT hS rfl rfl) (by decide) ?_; clear hS; intro aa hS
      refine sA hS hR (Yld.move hS rfl) (by decide) ?_; clear hS; intro aa hS
      refine sAg hS hR rfl rfl (Yld.move hS rfl) (by decide) ?_; clear hS; intro aa hS
      refine sAg hS hR rfl rfl (Yld.eql hS rfl rfl) (by decide) ?_; clear hS; intro aa hS
      refine sAg hS hR rfl rfl (Yld.loadAgg hS rfl Try.underlying23 rfl info23 (Rds.cons (Rd.blk (by repeat (first | with_reducible exact Pk.here | with_reducible apply Pk.there)) (by rfl)) (Rds.cons (Rd.blk (by repeat (first | with_reducible exact Pk.here | with_reducible apply Pk.there)) (by rfl)) (Rds.cons (Rd.blk (by repeat (first | with_reducible exact Pk.here | with_reducible apply Pk.there)) (by rfl)) (Rds.nil)))) (by rfl)) (by decide) ?_; clear hS; intro aa hS
      refine sAg hS hR rfl rfl (Yld.move hS rfl) (by decide) ?_; clear hS; intro aa hS
      refine sAg hS hR rfl rfl (Yld.move hS rfl) (by decide) ?_; clear hS; intro aa hS
      refine sAg hS hR rfl rfl (Yld.move hS rfl) (by decide) ?_; clear hS; intro aa hS
      refine sAg hS hR rfl rfl (Yld.move hS rfl) (by decide) ?_; clear hS; intro aa hS
      refine sBg hS rfl rfl (Bcall hS rfl Try.call18 (allowed_ok (hR.pk (r := sls r gs.length cg 45 2 (gs.flatMap e2)) (by repeat (first | with_reducible exact Pk.here | with_reducible apply Pk.there))) hM (fun g hg => by have := hI0.2.2.2.2.2.each g hg; omega) (by omega) (by have := hI0.2.2.2.2.2.start; omega) (by omega)) (by decide) ?_); clear hS; intro aa ww vv hS hp
      clear hR
      obtain ⟨rfl, hR⟩ := hp
      refine sAg hS hR rfl rfl (Yld.neqB hS rfl rfl Try.underlying4) (by decide) ?_; clear hS; intro aa hS
      replace hS := hS.sayB (t := 77) false rfl (by rcases hE with ⟨h, h2, _⟩ | ⟨h, h2⟩ <;> simp [h, h2])
      refine sA hS hR (Yld.pickF hS rfl rfl) (by decide) ?_; clear hS; intro aa hS
      refine wpList_nil ?_
      refine hK396 _ _ ?_
      refine condF hS rfl ?_
      refine wp_skip ?_
      refine hK395 _ _ ?_
      refine wp_seq_k ?_; intro K397 hK397
      refine wp_seq_k ?_; intro K398 hK398
      refine wp_region_lit ?_
      refine sA hS hR (Yld.move hS rfl) (by decide) ?_; clear hS; intro aa hS
      refine sA hS hR (Yld.eql hS rfl rfl) (by decide) ?_; clear hS; intro aa hS
      replace hS := hS.sayB (t := 80) false rfl (by simp [h6])
      refine wpList_nil ?_
      refine hK398 _ _ ?_
      refine condF hS rfl ?_
      refine wp_skip ?_
      refine hK397 _ _ ?_
      refine wp_seq_k ?_; intro K399 hK399
      refine wp_region_lit ?_
      refine sA hS hR (Yld.loadAgg hS rfl Try.underlying23 rfl info23 (Rds.cons (Rd.blk (by repeat (first | with_reducible exact Pk.here | with_reducible apply Pk.there)) (by rfl)) (Rds.cons (Rd.blk (by repeat (first | with_reducible exact Pk.here | with_reducible apply Pk.there)) (by rfl)) (Rds.cons (Rd.blk (by repeat (first | with_reducible exact Pk.here | with_reducible apply Pk.there)) (by rfl)) (Rds.nil)))) (by rfl)) (by decide) ?_; clear hS; intro aa hS
      refine sA hS hR (Yld.loadAgg hS rfl Try.underlying25 rfl info25 (Rds.cons (Rd.blk (by repeat (first | with_reducible exact Pk.here | with_reducible apply Pk.there)) (by rfl)) (Rds.cons (Rd.blk (by repeat (first | with_reducible exact Pk.here | with_reducible apply Pk.there)) (by rfl)) (Rds.nil))) (by rfl)) (by decide) ?_; clear hS; intro aa hS
      refine sB (Bcall hS rfl Try.call19 (Right_ok hR) (by decide) ?_); clear hS; intro aa ww vv hS hp
      clear hR
      obtain ⟨rfl, hR⟩ := hp
      refine sA hS hR (Yld.not hS rfl) (by decide) ?_; clear hS; intro aa hS
      replace hS := hS.sayB (t := 91) false rfl (by simp [hRB])
      refine wpList_nil ?_
      refine hK399 _ _ ?_
      refine condF hS rfl ?_
      refine wp_skip ?_
      refine hK390 _ _ ?_
      refine wp_region_lit ?_
      refine sA hS hR ((by first | exact Yld.add64 hS rfl rfl (by omega) | exact Yld.add hS rfl rfl)) (by decide) ?_; clear hS; intro aa hS
      refine sA hS hR (Yld.move hS rfl) (by decide) ?_; clear hS; intro aa hS
      refine wpList_nil ?_
      dsimp only [lay, List.set] at hR
      refine ⟨(k + 1, nw, _, _, _, _, _), ?_, ?_, hS.le (Le.cons rfl (Le.cons rfl (Le.cons rfl (Le.nilapp (by repeat (first | with_reducible exact Le.refl _ | refine Le.skip (lk_without rfl) ?_ | refine Le_inner rfl ?_)))))), hR.sub (Ex.take (by repeat (first | with_reducible exact Pk.here | with_reducible apply Pk.there)) (Ex.take (by repeat (first | with_reducible exact Pk.here | with_reducible apply Pk.there)) (Ex.nilapp (by repeat (first | with_reducible exact Ex.refl | with_reducible apply Ex.drop)))))⟩
      · dsimp only; exact ⟨by omega, hRB, by omega, by omega, by (try simp only [List.length_append, List.length_singleton]); omega, hI10⟩
      · dsimp only; omega
    · intro hg hS
      have hE' := hE
      rcases hE' with ⟨h0, hA, hRB, hAn, hI9⟩ | ⟨h, _⟩
      rotate_left
      · exfalso; omega
      have hI10 : Inv t p b st (gs ++ [(nw, kk)]) L A := by rw [hAn]; exact hI9
      refine sSkip hS rfl rfl rfl (by decide) ?_; clear hS; intro aa hS
      refine sSkip hS rfl rfl rfl (by decide) ?_; clear hS; intro aa hS
      refine sA hS hR (Yld.pickF hS rfl rfl) (by decide) ?_; clear hS; intro aa hS
      refine sA hS hR (Yld.move hS rfl) (by decide) ?_; clear hS; intro aa hS
      refine sAg hS hR rfl rfl (Yld.move hS rfl) (by decide) ?_; clear hS; intro aa hS
      refine sAg hS hR rfl rfl (Yld.eql hS rfl rfl) (by decide) ?_; clear hS; intro aa hS
      refine sAg hS hR rfl rfl (Yld.loadAgg hS rfl Try.underlying23 rfl info23 (Rds.cons (Rd.blk (by repeat (first | with_reducible exact Pk.here | with_reducible apply Pk.there)) (by rfl)) (Rds.cons (Rd.blk (by repeat (first | with_reducible exact Pk.here | with_reducible apply Pk.there)) (by rfl)) (Rds.cons (Rd.blk (by repeat (first | with_reducible exact Pk.here | with_reducible apply Pk.there)) (by rfl)) (Rds.nil)))) (by rfl)) (by decide) ?_; clear hS; intro aa hS
      refine sAg hS hR rfl rfl (Yld.move hS rfl) (by decide) ?_; clear hS; intro aa hS
      refine sAg hS hR rfl rfl (Yld.move hS rfl) (by decide) ?_; clear hS; intro aa hS
      refine sAg hS hR rfl rfl (Yld.move hS rfl) (by decide) ?_; clear hS; intro aa hS
      refine sAg hS hR rfl rfl (Yld.move hS rfl) (by decide) ?_; clear hS; intro aa hS
      refine sBg hS rfl rfl (Bcall hS rfl Try.call18 (allowed_ok (hR.pk (r := sls r gs.length cg 45 2 (gs.flatMap e2)) (by repeat (first | with_reducible exact Pk.here | with_reducible apply Pk.there))) hM (fun g hg => by have := hI0.2.2.2.2.2.each g hg; omega) (by omega) (by have := hI0.2.2.2.2.2.start; omega) (by omega)) (by decide) ?_); clear hS; intro aa ww vv hS hp
      clear hR
      obtain ⟨rfl, hR⟩ := hp
      refine sAg hS hR rfl rfl (Yld.neqB hS rfl rfl Try.underlying4) (by decide) ?_; clear hS; intro aa hS
      replace hS := hS.sayB (t := 77) false rfl (by rcases hE with ⟨h, h2, _⟩ | ⟨h, h2⟩ <;> simp [h, h2])
      refine sA hS hR (Yld.pickF hS rfl rfl) (by decide) ?_; clear hS; intro aa hS
      refine wpList_nil ?_
      refine hK396 _ _ ?_
      refine condF hS rfl ?_
      refine wp_skip ?_
      refine hK395 _ _ ?_
      refine wp_seq_k ?_; intro K400 hK400
      refine wp_seq_k ?_; intro K401 hK401
      refine wp_region_lit ?_
      refine sA hS hR (Yld.move hS rfl) (by decide) ?_; clear hS; intro aa hS
      refine sA hS hR (Yld.eql hS rfl rfl) (by decide) ?_; clear hS; intro aa hS
      replace hS := hS.sayB (t := 80) true rfl (by simp [h0])
      refine wpList_nil ?_
      refine hK401 _ _ ?_
      refine condT hS rfl ?_
      refine drawn (by kernel_rfl) hR (Ex.of_pk2 (r := blk bb8 _ _) (s := sls r gs.length cg 45 2 (gs.flatMap e2)) (by repeat (first | with_reducible exact Pk.here | with_reducible apply Pk.there)) (by repeat (first | with_reducible exact Pk.here | with_reducible apply Pk.there))) ?_; clear hR; intro ww hR hR0
      refine dA 0 rfl (by kernel_rfl) (by kernel_rfl) (by kernel_rfl) (fun _ _ _ h => h) hS hR0 (Yld.loadAgg hS rfl Try.underlying25 rfl info25 (Rds.cons (Rd.blk (by repeat (first | with_reducible exact Pk.here | with_reducible apply Pk.there)) (by rfl)) (Rds.cons (Rd.blk (by repeat (first | with_reducible exact Pk.here | with_reducible apply Pk.there)) (by rfl)) (Rds.nil))) (by rfl)) (by decide) ?_; clear hS; intro aa hS
      refine dA 1 rfl (by kernel_rfl) (by kernel_rfl) (by kernel_rfl) (fun _ _ _ h => h) hS hR0 (Yld.move hS rfl) (by decide) ?_; clear hS; intro aa hS
      refine dA 2 rfl (by kernel_rfl) (by kernel_rfl) (by kernel_rfl) (fun _ _ _ h => h) hS hR0 (Yld.move hS rfl) (by decide) ?_; clear hS; intro aa hS
      refine dA 3 rfl (by kernel_rfl) (by kernel_rfl) (by kernel_rfl) (fun _ _ _ h => h) hS hR0 (Yld.move hS rfl) (by decide) ?_; clear hS; intro aa hS
      refine dA 4 rfl (by kernel_rfl) (by kernel_rfl) (by kernel_rfl) (fun _ _ _ h => h) hS hR0 (Yld.build hS rfl (bld45_0_1 _ _)) (by decide) ?_; clear hS; intro aa hS
      refine dOne (i := 5) (by kernel_rfl) ?_
      refine dop rfl (BbuildSlice hS hR rfl (bls39_1_0 _ _) (by decide) ?_); clear hS hR hR0; intro aa ww bb86 hS hR
      refine dnext (hR.sub (Ex_trans (Ex.of_pk2 (r := blk bb8 _ _) (s := sls _ _ _ 45 2 _) (by repeat (first | with_reducible exact Pk.here | with_reducible apply Pk.there)) (by repeat (first | with_reducible exact Pk.here | with_reducible apply Pk.there))) (by repeat (first | with_reducible exact Ex.refl | with_reducible apply Ex.drop)))) ?_; intro hR0
      refine dOne (i := 6) (by kernel_rfl) ?_
      refine dop rfl (Bappend (sz := 2) hS hR rfl rfl Try.underlying39 info45 rfl rfl (by rfl) (by repeat (first | with_reducible exact Pk.here | with_reducible apply Pk.there)) (XC.blk (by repeat (first | with_reducible exact Pk.here | with_reducible apply Pk.there)) (by rfl)) (by rfl) (by show (_ + _) * 16 ≤ _; omega) (by omega) (by decide) ?_); clear hS hR hR0; intro aa ww r87 c87 hS hR
      refine dnext (hR.sub (Ex_trans (Ex.of_pk2 (r := blk bb8 _ _) (s := sls _ _ _ 45 2 _) (by repeat (first | with_reducible exact Pk.here | with_reducible apply Pk.there)) (by repeat (first | with_reducible exact Pk.here | with_reducible apply Pk.there))) (by repeat (first | with_reducible exact Ex.refl | with_reducible apply Ex.drop)))) ?_; intro hR0
      replace hR := hR.slsSnoc (enc := e2) (x := (nw, kk)) (ys := gs ++ [(nw, kk)]) (n' := (gs ++ [(nw, kk)]).length) rfl (by simp) rfl
      replace hS := hS.say (t := 87) (.slice r87 (gs ++ [(nw, kk)]).length c87) rfl (by simp)
      refine dOne (i := 7) (by kernel_rfl) ?_
      refine dop rfl (Bstore hS hR rfl rfl (by rfl) info25 (by rfl) (by repeat (first | with_reducible exact Pk.here | with_reducible apply Pk.there)) (by rfl) (Nat.le_of_ble_eq_true rfl) ?_); clear hR hR0; intro ww hR
      refine dnext (hR.sub (Ex_trans (Ex.of_pk2 (r := blk bb8 _ _) (s := sls _ _ _ 45 2 _) (by repeat (first | with_reducible exact Pk.here | with_reducible apply Pk.there)) (by repeat (first | with_reducible exact Pk.here | with_reducible apply Pk.there))) (by repeat (first | with_reducible exact Ex.refl | with_reducible apply Ex.drop)))) ?_; intro hR0
      refine dA 8 rfl (by kernel_rfl) (by kernel_rfl) (by kernel_rfl) (fun _ _ _ h => h) hS hR0 (Yld.assign hS rfl) (by decide) ?_; clear hS; intro aa hS
      refine wpAnyH_done (by kernel_rfl) ?_ _; clear hR0
      refine hK400 _ _ ?_
      refine wp_seq_k ?_; intro K402 hK402
      refine wp_region_lit ?_
      refine sA hS hR (Yld.loadAgg hS rfl Try.underlying23 rfl info23 (Rds.cons (Rd.blk (by repeat (first | with_reducible exact Pk.here | with_reducible apply Pk.there)) (by rfl)) (Rds.cons (Rd.blk (by repeat (first | with_reducible exact Pk.here | with_reducible apply Pk.there)) (by rfl)) (Rds.cons (Rd.blk (by repeat (first | with_reducible exact Pk.here | with_reducible apply Pk.there)) (by rfl)) (Rds.nil)))) (by rfl)) (by decide) ?_; clear hS; intro aa hS
      refine sA hS hR (Yld.loadAgg hS rfl Try.underlying25 rfl info25 (Rds.cons (Rd.blk (by repeat (first | with_reducible exact Pk.here | with_reducible apply Pk.there)) (by rfl)) (Rds.cons (Rd.blk (by repeat (first | with_reducible exact Pk.here | with_reducible apply Pk.there)) (by rfl)) (Rds.nil))) (by rfl)) (by decide) ?_; clear hS; intro aa hS
      refine sB (Bcall hS rfl Try.call19 (Right_ok hR) (by decide) ?_); clear hS; intro aa ww vv hS hp
      clear hR
      obtain ⟨rfl, hR⟩ := hp
      refine sA hS hR (Yld.not hS rfl) (by decide) ?_; clear hS; intro aa hS
      replace hS := hS.sayB (t := 91) false rfl (by simp [hRB])
      refine wpList_nil ?_
      refine hK402 _ _ ?_
      refine condF hS rfl ?_
      refine wp_skip ?_
      refine hK390 _ _ ?_
      refine wp_region_lit ?_
      refine sA hS hR ((by first | exact Yld.add64 hS rfl rfl (by omega) | exact Yld.add hS rfl rfl)) (by decide) ?_; clear hS; intro aa hS
      refine sA hS hR (Yld.move hS rfl) (by decide) ?_; clear hS; intro aa hS
      refine wpList_nil ?_
      dsimp only [lay, List.set] at hR
      refine ⟨(k + 1, nw, _, _, _, _, _), ?_, ?_, hS.le (Le.cons rfl (Le.cons rfl (Le.cons rfl (Le.nilapp (by repeat (first | with_reducible exact Le.refl _ | refine Le.skip (lk_without rfl) ?_ | refine Le_inner rfl ?_)))))), hR.sub (Ex.take (by repeat (first | with_reducible exact Pk.here | with_reducible apply Pk.there)) (Ex.take (by repeat (first | with_reducible exact Pk.here | with_reducible apply Pk.there)) (Ex.nilapp (by repeat (first | with_reducible exact Ex.refl | with_reducible apply Ex.drop)))))⟩
      · dsimp only; exact ⟨by omega, hRB, by omega, by omega, by (try simp only [List.length_append, List.length_singleton]); omega, hI10⟩
      · dsimp only; omega
  · intro hg hS
    refine condF hS rfl ?_
    refine wp_exit ?_
    refine hK385 _ _ ?_
    refine wp_seq_k ?_; intro K403 hK403
    refine wp_region_lit ?_
    refine sA hS hR (Yld.assign hS rfl) (by decide) ?_; clear hS; intro aa hS
    refine wpList_nil ?_
    refine hK403 _ _ ?_
    refine wp_ret ?_
    repeat (first | with_reducible refine thenR ?_ | with_reducible refine blockR ?_ | with_reducible refine scopeR ?_)
    refine ret1 (fn := Try.f5) (e := .ret) (.inl rfl) Try.results5 hS hR ⟨_, (.tmp rfl), ?_⟩
    exact ⟨rfl, (hR.sub (by repeat (first | with_reducible exact Ex.refl | with_reducible apply Ex.drop)))⟩
end Go.Proofs.Ytioacnbpnnabaaa.Sx
