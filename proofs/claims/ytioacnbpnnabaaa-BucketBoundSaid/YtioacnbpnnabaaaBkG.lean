/-
  
-/
import Derived.Test.YtioacnbpnnabaaaBkF
import Derived.Test.YtioacnbpnnabaaaArgs
import Derived.Test.YtioacnbpnnabaaaBkMath2
import Derived.Test.YtioacnbpnnabaaaBkMath3
namespace Go.Proofs.Ytioacnbpnnabaaa.Sx
open Go
set_option linter.unusedVariables false
set_option linter.unusedSimpArgs false

theorem info41 : Try.prog.info? 41 = some Try.t41 := by kernel_rfl

set_option maxHeartbeats 4000000 in
set_option maxRecDepth 20000 in
theorem BucketScales_ok {n0 n1 n2 z : Int} {q : Option Addr} {n c : Nat} {xs : List (List Int)} {W : World} (A1 : ArgS W [.i64, .i64] q n c xs) {l : List HP} {w : World} (hR : Sep (old W :: l) w) : CallR Try.prog 9 [.agg [.int .i64 n0, .int .i64 n1, .int .i64 n2].toArray, .slice q n c, .int .i64 z] w (fun v w' => v = .bool true ∧ Sep (old W :: l) w') := by
  refine enter Try.func9 rfl Try.ntmps9 (Nat.le_of_ble_eq_true rfl) ?_; intro aa hS
  have hcap := A1.cap
  refine wp_seq_k ?_; intro K321 hK321
  refine wp_region_lit ?_
  refine sB (Bbox hS hR rfl (by rfl) (by decide) ?_); clear hS hR; intro aa ww bb3 hS hR
  refine sA hS hR (Yld.assign hS rfl) (by decide) ?_; clear hS; intro aa hS
  refine wpList_nil ?_
  refine hK321 _ _ ?_
  refine wp_seq_k ?_; intro K322 hK322
  refine wp_seq_k ?_; intro K323 hK323
  refine wp_region_lit ?_
  refine sB (Bcall hS rfl Try.call12 (awake_ok hR) (by decide) ?_); clear hS; intro aa ww vv hS hp
  clear hR
  obtain ⟨rfl, hR⟩ := hp
  refine sA hS hR (Yld.not hS rfl) (by decide) ?_; clear hS; intro aa hS
  refine wpList_nil ?_
  refine hK323 _ _ ?_
  refine condF hS rfl ?_
  refine wp_skip ?_
  refine hK322 _ _ ?_
  refine wp_seq_k ?_; intro K324 hK324
  refine wp_region_lit ?_
  refine sA hS hR (Yld.loadAgg hS rfl Try.underlying32 rfl info32 (Rds.cons (Rd.blk (by repeat (first | with_reducible exact Pk.here | with_reducible apply Pk.there)) (by rfl)) (Rds.cons (Rd.blk (by repeat (first | with_reducible exact Pk.here | with_reducible apply Pk.there)) (by rfl)) (Rds.cons (Rd.blk (by repeat (first | with_reducible exact Pk.here | with_reducible apply Pk.there)) (by rfl)) (Rds.nil)))) (by rfl)) (by decide) ?_; clear hS; intro aa hS
  refine sB (Bcall hS rfl Try.call14 (made_ok hR) (by decide) ?_); clear hS; intro aa ww vv hS hp
  clear hR
  obtain ⟨⟨t, p, b, hM, rfl⟩, hR⟩ := hp
  have hmp := hM.most
  have hMd : 1 ≤ t ∧ t ≤ 100 ∧ 1 ≤ p ∧ p ≤ 1000 ∧ 1 ≤ b ∧ b ≤ 100 := hM
  refine sB (Balloc hS hR info23 (by rfl) (by rfl) (by decide) ?_); clear hS hR; intro aa ww bb7 hS hR
  refine sB (Bstore hS hR rfl rfl (by rfl) info23 (by rfl) (by repeat (first | with_reducible exact Pk.here | with_reducible apply Pk.there)) (by rfl) (Nat.le_of_ble_eq_true rfl) ?_); clear hR; intro ww hR
  refine wpList_nil ?_
  refine hK324 _ _ ?_
  refine wp_seq_k ?_; intro K325 hK325
  refine wp_region_lit ?_
  refine sA hS hR (Yld.move hS rfl) (by decide) ?_; clear hS; intro aa hS
  refine sB (Bcall hS rfl Try.call15 (modulo_ok hR (by omega)) (by decide) ?_); clear hS; intro aa ww vv hS hp
  clear hR
  obtain ⟨rfl, hR⟩ := hp
  refine sA hS hR ((by first | exact Yld.add64 hS rfl rfl (by omega) | exact Yld.add hS rfl rfl)) (by decide) ?_; clear hS; intro aa hS
  obtain ⟨f, hf, bf⟩ : ∃ y, 1 + z % 60 = y ∧ 1 ≤ y ∧ y ≤ 60 := ⟨_, rfl, by omega⟩
  replace hS := hS.say (t := 28) (.int .i64 f) rfl (by rw [hf])
  have hA := mulbd (a := t) (b := f) (A := 100) (B := 60) (by omega) (by omega) (by omega) (by omega)
  have hB := mulbd (a := p) (b := f) (A := 1000) (B := 60) (by omega) (by omega) (by omega) (by omega)
  refine sA hS hR (Yld.assign hS rfl) (by decide) ?_; clear hS; intro aa hS
  refine wpList_nil ?_
  refine hK325 _ _ ?_
  refine wp_seq_k ?_; intro K326 hK326
  refine wp_region_lit ?_
  refine sA hS hR (Yld.fieldAddr hS rfl 0 Try.underlying23 rfl rfl info3 (by decide)) (by decide) ?_; clear hS; intro aa hS
  refine sA hS hR (Yld.load1 hS rfl Try.underlying3 rfl (Rd.blk (by repeat (first | with_reducible exact Pk.here | with_reducible apply Pk.there)) (by rfl))) (by decide) ?_; clear hS; intro aa hS
  refine sA hS hR (Yld.move hS rfl) (by decide) ?_; clear hS; intro aa hS
  refine sA hS hR ((by first | exact Yld.mul64 hS rfl rfl (by omega) | exact Yld.mul hS rfl rfl)) (by decide) ?_; clear hS; intro aa hS
  refine sA hS hR (Yld.fieldAddr hS rfl 1 Try.underlying23 rfl rfl info3 (by decide)) (by decide) ?_; clear hS; intro aa hS
  refine sA hS hR (Yld.load1 hS rfl Try.underlying3 rfl (Rd.blk (by repeat (first | with_reducible exact Pk.here | with_reducible apply Pk.there)) (by rfl))) (by decide) ?_; clear hS; intro aa hS
  refine sA hS hR (Yld.move hS rfl) (by decide) ?_; clear hS; intro aa hS
  refine sA hS hR ((by first | exact Yld.mul64 hS rfl rfl (by omega) | exact Yld.mul hS rfl rfl)) (by decide) ?_; clear hS; intro aa hS
  refine sA hS hR (Yld.fieldAddr hS rfl 2 Try.underlying23 rfl rfl info3 (by decide)) (by decide) ?_; clear hS; intro aa hS
  refine sA hS hR (Yld.load1 hS rfl Try.underlying3 rfl (Rd.blk (by repeat (first | with_reducible exact Pk.here | with_reducible apply Pk.there)) (by rfl))) (by decide) ?_; clear hS; intro aa hS
  refine sA hS hR (Yld.build hS rfl (bld23_0_1_2 _ _ _)) (by decide) ?_; clear hS; intro aa hS
  refine sB (Balloc hS hR info23 (by rfl) (by rfl) (by decide) ?_); clear hS hR; intro aa ww bb9 hS hR
  refine sB (Bstore hS hR rfl rfl (by rfl) info23 (by rfl) (by repeat (first | with_reducible exact Pk.here | with_reducible apply Pk.there)) (by rfl) (Nat.le_of_ble_eq_true rfl) ?_); clear hR; intro ww hR
  refine wpList_nil ?_
  refine hK326 _ _ ?_
  refine wp_seq_k ?_; intro K327 hK327
  refine wp_region_lit ?_
  refine sA hS hR (Yld.loadAgg hS rfl Try.underlying23 rfl info23 (Rds.cons (Rd.blk (by repeat (first | with_reducible exact Pk.here | with_reducible apply Pk.there)) (by rfl)) (Rds.cons (Rd.blk (by repeat (first | with_reducible exact Pk.here | with_reducible apply Pk.there)) (by rfl)) (Rds.cons (Rd.blk (by repeat (first | with_reducible exact Pk.here | with_reducible apply Pk.there)) (by rfl)) (Rds.nil)))) (by rfl)) (by decide) ?_; clear hS; intro aa hS
  refine sB (Bcall hS rfl Try.call16 (Full_ok hR) (by decide) ?_); clear hS; intro aa ww vv hS hp
  clear hR
  obtain ⟨rfl, hR⟩ := hp
  rw [full_ok hM.rr (by omega) (by omega)] at hS; dsimp only at hS
  refine sA hS hR (Yld.move hS rfl) (by decide) ?_; clear hS; intro aa hS
  refine sA hS hR (Yld.extract hS rfl rfl) (by decide) ?_; clear hS; intro aa hS
  refine sA hS hR (Yld.extract hS rfl rfl) (by decide) ?_; clear hS; intro aa hS
  refine sB (Balloc hS hR info25 (by rfl) (by rfl) (by decide) ?_); clear hS hR; intro aa ww bb10 hS hR
  refine sB (Bstore hS hR rfl rfl (by rfl) info25 (by rfl) (by repeat (first | with_reducible exact Pk.here | with_reducible apply Pk.there)) (by rfl) (Nat.le_of_ble_eq_true rfl) ?_); clear hR; intro ww hR
  refine sA hS hR (Yld.assign hS rfl) (by decide) ?_; clear hS; intro aa hS
  refine wpList_nil ?_
  refine hK327 _ _ ?_
  refine wp_seq_k ?_; intro K328 hK328
  refine wp_region_lit ?_
  refine sA hS hR (Yld.loadAgg hS rfl Try.underlying23 rfl info23 (Rds.cons (Rd.blk (by repeat (first | with_reducible exact Pk.here | with_reducible apply Pk.there)) (by rfl)) (Rds.cons (Rd.blk (by repeat (first | with_reducible exact Pk.here | with_reducible apply Pk.there)) (by rfl)) (Rds.cons (Rd.blk (by repeat (first | with_reducible exact Pk.here | with_reducible apply Pk.there)) (by rfl)) (Rds.nil)))) (by rfl)) (by decide) ?_; clear hS; intro aa hS
  refine sB (Bcall hS rfl Try.call16 (Full_ok hR) (by decide) ?_); clear hS; intro aa ww vv hS hp
  clear hR
  obtain ⟨rfl, hR⟩ := hp
  rw [full_scale hM.rr (by omega) (by omega) (by omega) (by omega) (by omega)] at hS; dsimp only at hS
  refine sA hS hR (Yld.move hS rfl) (by decide) ?_; clear hS; intro aa hS
  refine sA hS hR (Yld.extract hS rfl rfl) (by decide) ?_; clear hS; intro aa hS
  refine sA hS hR (Yld.extract hS rfl rfl) (by decide) ?_; clear hS; intro aa hS
  refine sB (Balloc hS hR info25 (by rfl) (by rfl) (by decide) ?_); clear hS hR; intro aa ww bb12 hS hR
  refine sB (Bstore hS hR rfl rfl (by rfl) info25 (by rfl) (by repeat (first | with_reducible exact Pk.here | with_reducible apply Pk.there)) (by rfl) (Nat.le_of_ble_eq_true rfl) ?_); clear hR; intro ww hR
  refine sA hS hR (Yld.assign hS rfl) (by decide) ?_; clear hS; intro aa hS
  refine wpList_nil ?_
  refine hK328 _ _ ?_
  refine wp_seq_k ?_; intro K329 hK329
  refine wp_seq_k ?_; intro K330 hK330
  refine wp_region_lit ?_
  refine sA hS hR (Yld.move hS rfl) (by decide) ?_; clear hS; intro aa hS
  refine sA hS hR (Yld.move hS rfl) (by decide) ?_; clear hS; intro aa hS
  refine sA hS hR ((by first | exact Yld.add64 hS rfl rfl (by omega) | exact Yld.add hS rfl rfl)) (by decide) ?_; clear hS; intro aa hS
  refine sA hS hR (Yld.neq hS rfl rfl) (by decide) ?_; clear hS; intro aa hS
  replace hS := hS.sayB (t := 53) false rfl (by simp)
  refine wpList_nil ?_
  refine hK330 _ _ ?_
  refine condF hS rfl ?_
  refine wp_skip ?_
  refine hK329 _ _ ?_
  refine wp_seq_k ?_; intro K331 hK331
  refine wp_region_lit ?_
  refine sA hS hR (Yld.assign hS rfl) (by decide) ?_; clear hS; intro aa hS
  refine wpList_nil ?_
  refine hK331 _ _ ?_
  refine wp_seq_k ?_; intro K332 hK332
  refine wp_seq_k ?_; intro K333 hK333
  refine wp_region_lit ?_
  refine sA hS hR (Yld.move hS rfl) (by decide) ?_; clear hS; intro aa hS
  refine sA hS hR (Yld.move hS rfl) (by decide) ?_; clear hS; intro aa hS
  refine sA hS hR (Yld.len hS rfl Try.underlying33) (by decide) ?_; clear hS; intro aa hS
  refine sA hS hR (Yld.min hS rfl rfl) (by decide) ?_; clear hS; intro aa hS
  refine sA hS hR (Yld.sliceHi hS rfl rfl Try.underlying33 info41 (by omega) (by omega)) (by decide) ?_; clear hS; intro aa hS
  obtain ⟨m, hm0, hm1⟩ : ∃ m : Nat, (Min.min (n : Int) 40).toNat = m ∧ m ≤ n ∧ m ≤ 40 := ⟨_, rfl, by omega, by omega⟩
  replace hS := hS.say (t := 58) (.slice q m c) rfl (by rw [hm0])
  refine sA hS hR (Yld.len hS rfl Try.underlying33) (by decide) ?_; clear hS; intro aa hS
  refine sA hS hR (Yld.move hS rfl) (by decide) ?_; clear hS; intro aa hS
  refine wpList_nil ?_
  refine hK333 _ _ ?_
  refine wp_block ?_
  dsimp only [lay, List.set] at hR
  replace hR := hR.pk (r := blk bb12 [.int .i64 (b * p * f), .int .i64 0] 25) (by repeat (first | with_reducible exact Pk.here | with_reducible apply Pk.there))
  replace hR := hR.pk (r := blk bb10 [.int .i64 (b * p), .int .i64 0] 25) (by repeat (first | with_reducible exact Pk.here | with_reducible apply Pk.there))
  refine loopI (X := Nat × Int × Int × Int) (without [6, 14, 16, 17, 18, 19, 20, 21, 60, 61, 62, 63, 64, 65, 66, 67, 68, 69, 70, 71, 72, 73, 74, 75, 76, 77, 78, 79, 80, 81, 82, 83, 84, 85, 86, 87, 88, 89, 90, 91, 92, 93, 94, 95, 96, 97, 98, 99, 100, 101, 102, 103, 104, 105, 106, 107, 108, 109, 110, 111] _) (fun x => [(14, .int .i64 x.2.1), (60, .int .i64 (x.1 : Int))]) (fun x => [blk bb10 [.int .i64 x.2.2.1, .int .i64 x.2.2.2] 25, blk bb12 [.int .i64 (x.2.2.1 * f), .int .i64 x.2.2.2] 25]) _ (fun x => x.1 ≤ m ∧ RB t p b x.2.2.1 x.2.2.2 ∧ x.2.2.2 ≤ x.2.1 ∧ x.2.1 ≤ 2000 * x.1) (fun x => m - x.1) (0, 0, b * p, 0) (by dsimp only; exact ⟨by omega, hM.rb (by omega) (by omega), by omega, by omega⟩) (hS.le (by refine (Le.cons rfl (Le.cons rfl (Le.nilapp (Le.without _ _)))))) hR ?_
  clear hS hR; rintro ⟨k, now, lv, at_⟩ aa ww hI hS hR; dsimp only [List.cons_append, List.nil_append] at hI hS hR
  have hat : 0 ≤ at_ := hI.2.1.2.2.2.1
  refine wp_seq_k ?_; intro K335 hK335
  refine wp_region_lit ?_
  refine sA hS hR (Yld.lss hS rfl rfl) (by decide) ?_; clear hS; intro aa hS
  refine wpList_nil ?_
  refine hK335 _ _ ?_
  refine wp_seq_k ?_; intro K336 hK336
  refine hS.splitB (t := 61) rfl ?_ ?_ <;> clear hS
  · intro hg hS
    refine condT hS rfl ?_
    refine wp_skip ?_
    refine hK336 _ _ ?_
    refine wp_seq_k ?_; intro K337 hK337
    refine wp_block ?_
    refine wp_seq_k ?_; intro K338 hK338
    refine wp_region_lit ?_
    obtain ⟨ba, ia, ns, hq, hx, hl, hw, hc⟩ := A1.at (k := k) (by omega)
    obtain ⟨s0, s1, rfl⟩ := len2 hl
    subst hq
    refine sA hS hR (Yld.indexSlice hS rfl rfl Try.underlying33 info41 (by omega) (by omega)) (by decide) ?_; clear hS; intro aa hS
    refine sA hS hR (Yld.loadAgg (vs := [.int .i64 s0, .int .i64 s1]) hS rfl Try.underlying41 rfl info41 (Rds.at (Rds.old (by repeat (first | with_reducible exact Pk.here | with_reducible apply Pk.there)) hc) (by rfl)) (by rfl)) (by decide) ?_; clear hS; intro aa hS
    refine sB (Balloc hS hR info41 (by rfl) (by rfl) (by decide) ?_); clear hS hR; intro aa ww bb16 hS hR
    refine sB (Bstore hS hR rfl rfl (by rfl) info41 (by rfl) (by repeat (first | with_reducible exact Pk.here | with_reducible apply Pk.there)) (by rfl) (Nat.le_of_ble_eq_true rfl) ?_); clear hR; intro ww hR
    refine wpList_nil ?_
    refine hK338 _ _ ?_
    refine wp_seq_k ?_; intro K339 hK339
    refine wp_region_lit ?_
    refine sA hS hR (Yld.move hS rfl) (by decide) ?_; clear hS; intro aa hS
    refine sA hS hR (Yld.fieldAddr hS rfl 0 Try.underlying41 rfl rfl info3 (by decide)) (by decide) ?_; clear hS; intro aa hS
    refine sA hS hR (Yld.load1 hS rfl Try.underlying3 rfl (Rd.blk (by repeat (first | with_reducible exact Pk.here | with_reducible apply Pk.there)) (by rfl))) (by decide) ?_; clear hS; intro aa hS
    refine sB (Bcall hS rfl Try.call15 (modulo_ok hR (by omega)) (by decide) ?_); clear hS; intro aa ww vv hS hp
    clear hR
    obtain ⟨rfl, hR⟩ := hp
    refine sA hS hR ((by first | exact Yld.add64 hS rfl rfl (by omega) | exact Yld.add hS rfl rfl)) (by decide) ?_; clear hS; intro aa hS
    obtain ⟨nw, hnw, bnw⟩ : ∃ y, now + s0 % 2000 = y ∧ now ≤ y ∧ y ≤ now + 2000 := ⟨_, rfl, by omega⟩
    replace hS := hS.say (t := 68) (.int .i64 nw) rfl (by rw [hnw])
    refine sA hS hR (Yld.assign hS rfl) (by decide) ?_; clear hS; intro aa hS
    refine wpList_nil ?_
    refine hK339 _ _ ?_
    refine wp_seq_k ?_; intro K340 hK340
    refine wp_region_lit ?_
    refine sA hS hR (Yld.fieldAddr hS rfl 1 Try.underlying41 rfl rfl info3 (by decide)) (by decide) ?_; clear hS; intro aa hS
    refine sA hS hR (Yld.load1 hS rfl Try.underlying3 rfl (Rd.blk (by repeat (first | with_reducible exact Pk.here | with_reducible apply Pk.there)) (by rfl))) (by decide) ?_; clear hS; intro aa hS
    refine sA hS hR (Yld.fieldAddr hS rfl 2 Try.underlying23 rfl rfl info3 (by decide)) (by decide) ?_; clear hS; intro aa hS
    refine sA hS hR (Yld.load1 hS rfl Try.underlying3 rfl (Rd.blk (by repeat (first | with_reducible exact Pk.here | with_reducible apply Pk.there)) (by rfl))) (by decide) ?_; clear hS; intro aa hS
    refine sB (Bcall hS rfl Try.call15 (modulo_ok hR (by omega)) (by decide) ?_); clear hS; intro aa ww vv hS hp
    clear hR
    obtain ⟨rfl, hR⟩ := hp
    have e2 := emod_bd (n := s1) (d := b) (by omega)
    refine sA hS hR ((by first | exact Yld.add64 hS rfl rfl (by omega) | exact Yld.add hS rfl rfl)) (by decide) ?_; clear hS; intro aa hS
    obtain ⟨kk, hkk, bkk⟩ : ∃ y, 1 + s1 % b = y ∧ 1 ≤ y ∧ y ≤ b := ⟨_, rfl, by omega⟩
    replace hS := hS.say (t := 74) (.int .i64 kk) rfl (by rw [hkk])
    refine sA hS hR (Yld.assign hS rfl) (by decide) ?_; clear hS; intro aa hS
    refine wpList_nil ?_
    refine hK340 _ _ ?_
    refine wp_seq_k ?_; intro K341 hK341
    refine wp_region_lit ?_
    refine sA hS hR (Yld.loadAgg hS rfl Try.underlying23 rfl info23 (Rds.cons (Rd.blk (by repeat (first | with_reducible exact Pk.here | with_reducible apply Pk.there)) (by rfl)) (Rds.cons (Rd.blk (by repeat (first | with_reducible exact Pk.here | with_reducible apply Pk.there)) (by rfl)) (Rds.cons (Rd.blk (by repeat (first | with_reducible exact Pk.here | with_reducible apply Pk.there)) (by rfl)) (Rds.nil)))) (by rfl)) (by decide) ?_; clear hS; intro aa hS
    refine sA hS hR (Yld.loadAgg hS rfl Try.underlying25 rfl info25 (Rds.cons (Rd.blk (by repeat (first | with_reducible exact Pk.here | with_reducible apply Pk.there)) (by rfl)) (Rds.cons (Rd.blk (by repeat (first | with_reducible exact Pk.here | with_reducible apply Pk.there)) (by rfl)) (Rds.nil))) (by rfl)) (by decide) ?_; clear hS; intro aa hS
    refine sA hS hR (Yld.move hS rfl) (by decide) ?_; clear hS; intro aa hS
    refine sA hS hR (Yld.move hS rfl) (by decide) ?_; clear hS; intro aa hS
    refine sB (Bcall hS rfl Try.call17 (Take_ok hR) (by decide) ?_); clear hS; intro aa ww vv hS hp
    clear hR
    obtain ⟨rfl, hR⟩ := hp
    have hT : RT t p b lv at_ nw := ⟨hI.2.1, by omega, by omega⟩
    obtain ⟨L, A, E, hk1, hk2, hE, hL0, hL1⟩ := take_scale (n := kk) hT (show 1 ≤ f by omega) (by omega) (by omega) (by omega) (by omega)
    rw [hk1] at hS; dsimp only at hS
    refine sA hS hR (Yld.move hS rfl) (by decide) ?_; clear hS; intro aa hS
    refine sA hS hR (Yld.extract hS rfl rfl) (by decide) ?_; clear hS; intro aa hS
    refine sA hS hR (Yld.extract hS rfl rfl) (by decide) ?_; clear hS; intro aa hS
    refine sB (Balloc hS hR info25 (by rfl) (by rfl) (by decide) ?_); clear hS hR; intro aa ww bb18 hS hR
    refine sB (Bstore hS hR rfl rfl (by rfl) info25 (by rfl) (by repeat (first | with_reducible exact Pk.here | with_reducible apply Pk.there)) (by rfl) (Nat.le_of_ble_eq_true rfl) ?_); clear hR; intro ww hR
    refine sA hS hR (Yld.assign hS rfl) (by decide) ?_; clear hS; intro aa hS
    refine wpList_nil ?_
    refine hK341 _ _ ?_
    refine wp_seq_k ?_; intro K342 hK342
    refine wp_region_lit ?_
    refine sA hS hR (Yld.loadAgg hS rfl Try.underlying23 rfl info23 (Rds.cons (Rd.blk (by repeat (first | with_reducible exact Pk.here | with_reducible apply Pk.there)) (by rfl)) (Rds.cons (Rd.blk (by repeat (first | with_reducible exact Pk.here | with_reducible apply Pk.there)) (by rfl)) (Rds.cons (Rd.blk (by repeat (first | with_reducible exact Pk.here | with_reducible apply Pk.there)) (by rfl)) (Rds.nil)))) (by rfl)) (by decide) ?_; clear hS; intro aa hS
    refine sA hS hR (Yld.loadAgg hS rfl Try.underlying25 rfl info25 (Rds.cons (Rd.blk (by repeat (first | with_reducible exact Pk.here | with_reducible apply Pk.there)) (by rfl)) (Rds.cons (Rd.blk (by repeat (first | with_reducible exact Pk.here | with_reducible apply Pk.there)) (by rfl)) (Rds.nil))) (by rfl)) (by decide) ?_; clear hS; intro aa hS
    refine sA hS hR (Yld.move hS rfl) (by decide) ?_; clear hS; intro aa hS
    refine sA hS hR (Yld.move hS rfl) (by decide) ?_; clear hS; intro aa hS
    refine sB (Bcall hS rfl Try.call17 (Take_ok hR) (by decide) ?_); clear hS; intro aa ww vv hS hp
    clear hR
    obtain ⟨rfl, hR⟩ := hp
    rw [hk2] at hS; dsimp only at hS
    refine sA hS hR (Yld.move hS rfl) (by decide) ?_; clear hS; intro aa hS
    refine sA hS hR (Yld.extract hS rfl rfl) (by decide) ?_; clear hS; intro aa hS
    refine sA hS hR (Yld.extract hS rfl rfl) (by decide) ?_; clear hS; intro aa hS
    refine sB (Balloc hS hR info25 (by rfl) (by rfl) (by decide) ?_); clear hS hR; intro aa ww bb20 hS hR
    refine sB (Bstore hS hR rfl rfl (by rfl) info25 (by rfl) (by repeat (first | with_reducible exact Pk.here | with_reducible apply Pk.there)) (by rfl) (Nat.le_of_ble_eq_true rfl) ?_); clear hR; intro ww hR
    refine sA hS hR (Yld.assign hS rfl) (by decide) ?_; clear hS; intro aa hS
    refine wpList_nil ?_
    refine hK342 _ _ ?_
    refine wp_seq_k ?_; intro K343 hK343
    refine wp_seq_k ?_; intro K344 hK344
    refine wp_region_lit ?_
    refine sA hS hR (Yld.move hS rfl) (by decide) ?_; clear hS; intro aa hS
    refine sA hS hR (Yld.move hS rfl) (by decide) ?_; clear hS; intro aa hS
    refine sA hS hR (Yld.neq hS rfl rfl) (by decide) ?_; clear hS; intro aa hS
    replace hS := hS.sayB (t := 93) false rfl (by simp)
    refine sA hS hR (Yld.move hS rfl) (by decide) ?_; clear hS; intro aa hS
    refine sAg hS hR rfl rfl (Yld.move hS rfl) (by decide) ?_; clear hS; intro aa hS
    refine sAg hS hR rfl rfl (Yld.eql hS rfl rfl) (by decide) ?_; clear hS; intro aa hS
    refine sAg hS hR rfl rfl (Yld.move hS rfl) (by decide) ?_; clear hS; intro aa hS
    refine hS.splitB (t := 97) rfl ?_ ?_ <;> clear hS
    · intro hg hS
      refine sAg hS hR rfl rfl (Yld.fieldAddr hS rfl 0 Try.underlying25 rfl rfl info3 (by decide)) (by decide) ?_; clear hS; intro aa hS
      refine sAg hS hR rfl rfl (Yld.load1 hS rfl Try.underlying3 rfl (Rd.blk (by repeat (first | with_reducible exact Pk.here | with_reducible apply Pk.there)) (by rfl))) (by decide) ?_; clear hS; intro aa hS
      refine sAg hS hR rfl rfl (Yld.fieldAddr hS rfl 0 Try.underlying25 rfl rfl info3 (by decide)) (by decide) ?_; clear hS; intro aa hS
      refine sAg hS hR rfl rfl (Yld.load1 hS rfl Try.underlying3 rfl (Rd.blk (by repeat (first | with_reducible exact Pk.here | with_reducible apply Pk.there)) (by rfl))) (by decide) ?_; clear hS; intro aa hS
      have hLf := mulbd (a := L) (b := f) (A := 100000) (B := 60) (by omega) (by omega) (by omega) (by omega)
      refine sAg hS hR rfl rfl (Yld.move hS rfl) (by decide) ?_; clear hS; intro aa hS
      refine sAg hS hR rfl rfl ((by first | exact Yld.mul64 hS rfl rfl (by omega) | exact Yld.mul hS rfl rfl)) (by decide) ?_; clear hS; intro aa hS
      refine sAg hS hR rfl rfl (Yld.neq hS rfl rfl) (by decide) ?_; clear hS; intro aa hS
      replace hS := hS.sayB (t := 104) false rfl (by simp)
      refine sAg hS hR rfl rfl (Yld.pickT hS rfl rfl) (by decide) ?_; clear hS; intro aa hS
      refine sA hS hR (Yld.pickF hS rfl rfl) (by decide) ?_; clear hS; intro aa hS
      refine wpList_nil ?_
      refine hK344 _ _ ?_
      refine condF hS rfl ?_
      refine wp_skip ?_
      refine hK343 _ _ ?_
      refine wp_seq_k ?_; intro K345 hK345
      refine wp_region_lit ?_
      refine sA hS hR (Yld.move hS rfl) (by decide) ?_; clear hS; intro aa hS
      refine sA hS hR (Yld.eql hS rfl rfl) (by decide) ?_; clear hS; intro aa hS
      replace hS := hS.sayB (t := 108) true rfl (by exact decide_eq_true (by omega))
      refine wpList_nil ?_
      refine hK345 _ _ ?_
      refine condT hS rfl ?_
      refine drawn (by kernel_rfl) hR (Ex.of_pk2 (r := blk bb10 _ _) (s := blk bb12 _ _) (by repeat (first | with_reducible exact Pk.here | with_reducible apply Pk.there)) (by repeat (first | with_reducible exact Pk.here | with_reducible apply Pk.there))) ?_; clear hR; intro ww hR hR0
      refine dA 0 rfl (by kernel_rfl) (by kernel_rfl) (by kernel_rfl) (fun _ _ _ h => h) hS hR0 (Yld.loadAgg hS rfl Try.underlying25 rfl info25 (Rds.cons (Rd.blk (by repeat (first | with_reducible exact Pk.here | with_reducible apply Pk.there)) (by rfl)) (Rds.cons (Rd.blk (by repeat (first | with_reducible exact Pk.here | with_reducible apply Pk.there)) (by rfl)) (Rds.nil))) (by rfl)) (by decide) ?_; clear hS; intro aa hS
      refine dA 1 rfl (by kernel_rfl) (by kernel_rfl) (by kernel_rfl) (fun _ _ _ h => h) hS hR0 (Yld.loadAgg hS rfl Try.underlying25 rfl info25 (Rds.cons (Rd.blk (by repeat (first | with_reducible exact Pk.here | with_reducible apply Pk.there)) (by rfl)) (Rds.cons (Rd.blk (by repeat (first | with_reducible exact Pk.here | with_reducible apply Pk.there)) (by rfl)) (Rds.nil))) (by rfl)) (by decide) ?_; clear hS; intro aa hS
      refine dOne (i := 2) (by kernel_rfl) ?_
      refine dop rfl (Bstore hS hR rfl rfl (by rfl) info25 (by rfl) (by repeat (first | with_reducible exact Pk.here | with_reducible apply Pk.there)) (by rfl) (Nat.le_of_ble_eq_true rfl) ?_); clear hR hR0; intro ww hR
      refine dnext (hR.sub (Ex.of_pk2 (r := blk bb10 _ _) (s := blk bb12 _ _) (by repeat (first | with_reducible exact Pk.here | with_reducible apply Pk.there)) (by repeat (first | with_reducible exact Pk.here | with_reducible apply Pk.there)))) ?_; intro hR0
      refine dOne (i := 3) (by kernel_rfl) ?_
      refine dop rfl (Bstore hS hR rfl rfl (by rfl) info25 (by rfl) (by repeat (first | with_reducible exact Pk.here | with_reducible apply Pk.there)) (by rfl) (Nat.le_of_ble_eq_true rfl) ?_); clear hR hR0; intro ww hR
      refine dnext (hR.sub (Ex.of_pk2 (r := blk bb10 _ _) (s := blk bb12 _ _) (by repeat (first | with_reducible exact Pk.here | with_reducible apply Pk.there)) (by repeat (first | with_reducible exact Pk.here | with_reducible apply Pk.there)))) ?_; intro hR0
      refine wpAnyH_done (by kernel_rfl) ?_ _; clear hR0
      refine hK337 _ _ ?_
      refine wp_region_lit ?_
      refine sA hS hR ((by first | exact Yld.add64 hS rfl rfl (by omega) | exact Yld.add hS rfl rfl)) (by decide) ?_; clear hS; intro aa hS
      refine sA hS hR (Yld.move hS rfl) (by decide) ?_; clear hS; intro aa hS
      refine wpList_nil ?_
      dsimp only [lay, List.set] at hR
      refine ⟨(k + 1, nw, _, _), ?_, ?_, hS.le (Le.cons rfl (Le.cons rfl (Le.nilapp (by repeat (first | with_reducible exact Le.refl _ | refine Le.skip (lk_without rfl) ?_ | refine Le_inner rfl ?_))))), hR.sub (Ex.take (by repeat (first | with_reducible exact Pk.here | with_reducible apply Pk.there)) (Ex.take (by repeat (first | with_reducible exact Pk.here | with_reducible apply Pk.there)) (Ex.nilapp (by repeat (first | with_reducible exact Ex.refl | with_reducible apply Ex.drop)))))⟩
      · dsimp only; refine ⟨by omega, ?_, by omega, by omega⟩; first | exact hI.2.1 | (rcases hE with ⟨_, h, _⟩ | h; exact h; omega)
      · dsimp only; omega
    · intro hg hS
      refine sSkip hS rfl rfl rfl (by decide) ?_; clear hS; intro aa hS
      refine sSkip hS rfl rfl rfl (by decide) ?_; clear hS; intro aa hS
      refine sSkip hS rfl rfl rfl (by decide) ?_; clear hS; intro aa hS
      refine sSkip hS rfl rfl rfl (by decide) ?_; clear hS; intro aa hS
      refine sSkip hS rfl rfl rfl (by decide) ?_; clear hS; intro aa hS
      refine sSkip hS rfl rfl rfl (by decide) ?_; clear hS; intro aa hS
      refine sSkip hS rfl rfl rfl (by decide) ?_; clear hS; intro aa hS
      refine sAg hS hR rfl rfl (Yld.pickF hS rfl rfl) (by decide) ?_; clear hS; intro aa hS
      refine sA hS hR (Yld.pickF hS rfl rfl) (by decide) ?_; clear hS; intro aa hS
      refine wpList_nil ?_
      refine hK344 _ _ ?_
      refine condF hS rfl ?_
      refine wp_skip ?_
      refine hK343 _ _ ?_
      refine wp_seq_k ?_; intro K346 hK346
      refine wp_region_lit ?_
      refine sA hS hR (Yld.move hS rfl) (by decide) ?_; clear hS; intro aa hS
      refine sA hS hR (Yld.eql hS rfl rfl) (by decide) ?_; clear hS; intro aa hS
      replace hS := hS.sayB (t := 108) false rfl (by exact decide_eq_false (by omega))
      refine wpList_nil ?_
      refine hK346 _ _ ?_
      refine condF hS rfl ?_
      refine wp_skip ?_
      refine hK337 _ _ ?_
      refine wp_region_lit ?_
      refine sA hS hR ((by first | exact Yld.add64 hS rfl rfl (by omega) | exact Yld.add hS rfl rfl)) (by decide) ?_; clear hS; intro aa hS
      refine sA hS hR (Yld.move hS rfl) (by decide) ?_; clear hS; intro aa hS
      refine wpList_nil ?_
      dsimp only [lay, List.set] at hR
      refine ⟨(k + 1, nw, _, _), ?_, ?_, hS.le (Le.cons rfl (Le.cons rfl (Le.nilapp (by repeat (first | with_reducible exact Le.refl _ | refine Le.skip (lk_without rfl) ?_ | refine Le_inner rfl ?_))))), hR.sub (Ex.take (by repeat (first | with_reducible exact Pk.here | with_reducible apply Pk.there)) (Ex.take (by repeat (first | with_reducible exact Pk.here | with_reducible apply Pk.there)) (Ex.nilapp (by repeat (first | with_reducible exact Ex.refl | with_reducible apply Ex.drop)))))⟩
      · dsimp only; refine ⟨by omega, ?_, by omega, by omega⟩; first | exact hI.2.1 | (rcases hE with ⟨_, h, _⟩ | h; exact h; omega)
      · dsimp only; omega
  · intro hg hS
    refine condF hS rfl ?_
    refine wp_exit ?_
    refine hK332 _ _ ?_
    refine wp_seq_k ?_; intro K347 hK347
    refine wp_region_lit ?_
    refine sA hS hR (Yld.assign hS rfl) (by decide) ?_; clear hS; intro aa hS
    refine wpList_nil ?_
    refine hK347 _ _ ?_
    refine wp_ret ?_
    repeat (first | with_reducible refine thenR ?_ | with_reducible refine blockR ?_ | with_reducible refine scopeR ?_)
    refine ret1 (fn := Try.f9) (e := .ret) (.inl rfl) Try.results9 hS hR ⟨_, (.tmp rfl), ?_⟩
    exact ⟨rfl, (hR.sub (by repeat (first | with_reducible exact Ex.refl | with_reducible apply Ex.drop)))⟩
end Go.Proofs.Ytioacnbpnnabaaa.Sx
