/-
  
-/
import Derived.Test.YtmlebadfedleoaaLwD
namespace Go.Proofs.Ytmlebadfedleoaa.Sx
open Go
set_option linter.unusedVariables false
set_option linter.unusedSimpArgs false



set_option maxHeartbeats 8000000 in
set_option maxRecDepth 20000 in
theorem ArenaSafe_ok {W : World} {a : Int} {q : Option Addr} {n c : Nat} {xs : List (List Int)} (A1 : ArgS W [.u8] q n c xs) {l : List HP} {w : World} (hR : Sep (old W :: l) w) (ha : 0 ≤ a ∧ a ≤ 255) : CallR Try.prog 5 [.int .u8 a, .slice q n c] w (fun v w' => v = .bool true ∧ Sep (old W :: l) w') := by
  refine enter Try.func5 rfl Try.ntmps5 (Nat.le_of_ble_eq_true rfl) ?_; intro aa hS
  have hcap := A1.cap
  refine wp_seq_k ?_; intro K446 hK446
  refine wp_region_lit ?_
  refine sA hS hR (Yld.assign hS rfl) (by decide) ?_; clear hS; intro aa hS
  refine wpList_nil ?_
  refine hK446 _ _ ?_
  refine wp_seq_k ?_; intro K447 hK447
  refine wp_region_lit ?_
  refine sA hS hR (Yld.move hS rfl) (by decide) ?_; clear hS; intro aa hS
  refine sA hS hR ((by first | exact Yld.to (Yld.convInt hS rfl rfl Try.underlying3) (congrArg (Value.int .i64) (IntWalk.i64_in _ (by omega))) | exact Yld.convInt hS rfl rfl Try.underlying3)) (by decide) ?_; clear hS; intro aa hS
  refine sA hS hR ((by first | exact Yld.rem64 hS rfl rfl (by omega) | exact Yld.rem hS rfl rfl (by omega))) (by decide) ?_; clear hS; intro aa hS
  refine sA hS hR ((by first | exact Yld.add64 hS rfl rfl (by omega) | exact Yld.add hS rfl rfl)) (by decide) ?_; clear hS; intro aa hS
  obtain ⟨m, hm, bm⟩ : ∃ y : Nat, 1 + a % 16 = (y : Int) ∧ 1 ≤ y ∧ y ≤ 16 := ⟨(1 + a % 16).toNat, by omega, by omega⟩
  replace hS := hS.say (t := 27) (.int .i64 (m : Int)) rfl (by rw [hm])
  refine sA hS hR (Yld.assign hS rfl) (by decide) ?_; clear hS; intro aa hS
  refine wpList_nil ?_
  refine hK447 _ _ ?_
  refine wp_seq_k ?_; intro K448 hK448
  refine wp_region_lit ?_
  refine sA hS hR (Yld.move hS rfl) (by decide) ?_; clear hS; intro aa hS
  refine sB (Bcall hS rfl Try.call9 (New_ok hR (by omega)) (by decide) ?_); clear hS; intro aa ww vv hS hp
  clear hR
  obtain ⟨b, rfl, hR⟩ := hp
  rw [Int.toNat_natCast] at hR
  refine sA hS hR (Yld.move hS rfl) (by decide) ?_; clear hS; intro aa hS
  refine sA hS hR (Yld.extract hS rfl rfl) (by decide) ?_; clear hS; intro aa hS
  refine sA hS hR (Yld.extract hS rfl rfl) (by decide) ?_; clear hS; intro aa hS
  refine sA hS hR (Yld.assign hS rfl) (by decide) ?_; clear hS; intro aa hS
  refine sA hS hR (Yld.assign hS rfl) (by decide) ?_; clear hS; intro aa hS
  refine wpList_nil ?_
  refine hK448 _ _ ?_
  refine wp_seq_k ?_; intro K449 hK449
  refine wp_seq_k ?_; intro K450 hK450
  refine wp_region_lit ?_
  refine sA hS hR (Yld.move hS rfl) (by decide) ?_; clear hS; intro aa hS
  refine sA hS hR (Yld.neq hS rfl rfl) (by decide) ?_; clear hS; intro aa hS
  replace hS := hS.sayB (t := 34) false rfl (by simp)
  refine sA hS hR (Yld.move hS rfl) (by decide) ?_; clear hS; intro aa hS
  refine sAg hS hR rfl rfl (Yld.move hS rfl) (by decide) ?_; clear hS; intro aa hS
  refine sAg hS hR rfl rfl (Yld.eqlNil hS rfl rfl Try.underlying23) (by decide) ?_; clear hS; intro aa hS
  replace hS := hS.sayB (t := 37) false rfl (by simp)
  refine sA hS hR (Yld.pickF hS rfl rfl) (by decide) ?_; clear hS; intro aa hS
  refine wpList_nil ?_
  refine hK450 _ _ ?_
  refine condF hS rfl ?_
  refine wp_skip ?_
  refine hK449 _ _ ?_
  refine wp_seq_k ?_; intro K451 hK451
  refine wp_region_lit ?_
  refine sA hS hR (Yld.assign hS rfl) (by decide) ?_; clear hS; intro aa hS
  refine sA hS hR (Yld.assign hS rfl) (by decide) ?_; clear hS; intro aa hS
  refine wpList_nil ?_
  refine hK451 _ _ ?_
  refine wp_seq_k ?_; intro K452 hK452
  refine wp_seq_k ?_; intro K453 hK453
  refine wp_region_lit ?_
  refine sA hS hR (Yld.move hS rfl) (by decide) ?_; clear hS; intro aa hS
  refine sA hS hR (Yld.move hS rfl) (by decide) ?_; clear hS; intro aa hS
  refine sA hS hR (Yld.len hS rfl Try.underlying22) (by decide) ?_; clear hS; intro aa hS
  refine sA hS hR (Yld.min hS rfl rfl) (by decide) ?_; clear hS; intro aa hS
  refine sA hS hR (Yld.sliceHi hS rfl rfl Try.underlying22 info5 (by omega) (by omega)) (by decide) ?_; clear hS; intro aa hS
  obtain ⟨mm, hmm0, hmm1⟩ : ∃ y : Nat, (Min.min (n : Int) 150).toNat = y ∧ y ≤ n ∧ y ≤ 150 := ⟨_, rfl, by omega, by omega⟩
  replace hS := hS.say (t := 43) (.slice q mm c) rfl (by rw [hmm0])
  refine sA hS hR (Yld.len hS rfl Try.underlying22) (by decide) ?_; clear hS; intro aa hS
  refine sA hS hR (Yld.move hS rfl) (by decide) ?_; clear hS; intro aa hS
  refine wpList_nil ?_
  refine hK453 _ _ ?_
  refine wp_block ?_
  replace hR := (hR.slsNil (T := 29) (sz := 2)).slsNil (T := 29) (sz := 2)
  replace hR := hR.pk (r := sls none 0 0 29 2 []) (by repeat (first | with_reducible exact Pk.here | with_reducible apply Pk.there))
  replace hR := hR.pk (r := sls none 0 0 29 2 []) (by repeat (first | with_reducible exact Pk.here | with_reducible apply Pk.there))
  replace hR := hR.pk (r := arena 57 60 b (Ar.new m)) (by repeat (first | with_reducible exact Pk.here | with_reducible apply Pk.there))
  refine loopI (X := Nat × Ar × List (Int × Int) × List (Int × Int) × (Option Addr × Nat) × (Option Addr × Nat)) [(5, _), (6, _), (43, _), (44, _)] (fun x => [(8, .slice x.2.2.2.2.1.1 x.2.2.1.length x.2.2.2.2.1.2), (9, .slice x.2.2.2.2.2.1 x.2.2.2.1.length x.2.2.2.2.2.2), (45, .int .i64 (x.1 : Int))]) (fun x => [arena 57 60 b x.2.1, sls x.2.2.2.2.1.1 x.2.2.1.length x.2.2.2.2.1.2 29 2 (x.2.2.1.flatMap e2), sls x.2.2.2.2.2.1 x.2.2.2.1.length x.2.2.2.2.2.2 29 2 (x.2.2.2.1.flatMap e2)]) _ (fun x => x.1 ≤ mm ∧ Lv x.2.1 m x.2.2.1 ∧ Gn x.2.1 x.1 x.2.2.2.1 ∧ x.2.2.2.1.length ≤ x.1) (fun x => mm - x.1) (0, Ar.new m, [], [], (none, 0), (none, 0)) ⟨Nat.zero_le _, Lv.new (by omega) (by omega), Gn.new, Nat.le_refl _⟩ (hS.le (Le.cons rfl (Le.cons rfl (Le.cons rfl (Le.nilapp (Le.cons rfl (Le.cons rfl (Le.cons rfl (Le.cons rfl (Le.nil _)))))))))) hR ?_
  clear hS hR; rintro ⟨j, A, live, gone, ⟨r1, c1⟩, ⟨r2, c2⟩⟩ aa ww hI hS hR; dsimp only [List.cons_append, List.nil_append] at hI hS hR
  have hLv := hI.2.1
  have hGn := hI.2.2.1
  have hall := hLv.all
  have hIj := hI.1
  have hIg := hI.2.2.2
  refine wp_seq_k ?_; intro K455 hK455
  refine wp_region_lit ?_
  refine sA hS hR (Yld.lss hS rfl rfl) (by decide) ?_; clear hS; intro aa hS
  refine wpList_nil ?_
  refine hK455 _ _ ?_
  refine wp_seq_k ?_; intro K456 hK456
  refine hS.splitB (t := 46) rfl ?_ ?_ <;> clear hS
  · intro hg hS
    refine condT hS rfl ?_
    refine wp_skip ?_
    refine hK456 _ _ ?_
    refine wp_seq_k ?_; intro K457 hK457
    refine wp_block ?_
    refine wp_seq_k ?_; intro K458 hK458
    refine wp_region_lit ?_
    obtain ⟨ba, ia, ns, hq, hx, hl, hw, hc⟩ := A1.at (k := j) (by omega)
    obtain ⟨s0, rfl⟩ := len1 hl
    subst hq
    have hs0 : 0 ≤ s0 ∧ s0 ≤ 255 := hw.1
    refine sA hS hR ((by first | exact Yld.indexL (sz := 1) _ hS rfl rfl Try.underlying22 info5 (by repeat (first | with_reducible exact Pk.here | with_reducible apply Pk.there)) rfl rfl (by omega) | exact Yld.indexB (sz := 1) _ hS rfl rfl Try.underlying22 info5 rfl rfl (by omega) | exact Yld.indexSlice hS rfl rfl Try.underlying22 info5 (by omega) (by omega))) (by decide) ?_; clear hS; intro aa hS
    refine sA hS hR (Yld.load1 hS rfl Try.underlying5 rfl (Rds.rd (Rds.at (Rds.old (by repeat (first | with_reducible exact Pk.here | with_reducible apply Pk.there)) hc) (by rfl)) (by rfl))) (by decide) ?_; clear hS; intro aa hS
    refine sA hS hR (Yld.assign hS rfl) (by decide) ?_; clear hS; intro aa hS
    refine wpList_nil ?_
    refine hK458 _ _ ?_
    refine wp_seq_k ?_; intro K459 hK459
    refine wp_seq_k ?_; intro K460 hK460
    refine wp_region_lit ?_
    refine sA hS hR (Yld.move hS rfl) (by decide) ?_; clear hS; intro aa hS
    refine sA hS hR ((by first | exact Yld.rem64 hS rfl rfl (by omega) | exact Yld.rem hS rfl rfl (by omega))) (by decide) ?_; clear hS; intro aa hS
    refine sA hS hR (Yld.eql hS rfl rfl) (by decide) ?_; clear hS; intro aa hS
    refine sA hS hR (Yld.move hS rfl) (by decide) ?_; clear hS; intro aa hS
    refine hS.splitB (t := 52) rfl ?_ ?_ <;> clear hS
    · intro hg hS
      refine sSkip hS rfl rfl rfl (by decide) ?_; clear hS; intro aa hS
      refine sSkip hS rfl rfl rfl (by decide) ?_; clear hS; intro aa hS
      refine sSkip hS rfl rfl rfl (by decide) ?_; clear hS; intro aa hS
      refine sA hS hR (Yld.pickT hS rfl rfl) (by decide) ?_; clear hS; intro aa hS
      refine wpList_nil ?_
      refine hK460 _ _ ?_
      refine condT hS rfl ?_
      refine wp_seq_k ?_; intro K461 hK461
      refine wp_region_lit ?_
      refine sA hS hR (Yld.move hS rfl) (by decide) ?_; clear hS; intro aa hS
      refine sB (Bcall hS rfl Try.call10 (Take_okA (hR.pk (r := arena 57 60 _ _) (by repeat (first | with_reducible exact Pk.here | with_reducible apply Pk.there)))) (by decide) ?_); clear hS; intro aa ww vv hS hp
      clear hR
      obtain ⟨rfl, hR⟩ := hp
      refine sA hS hR (Yld.move hS rfl) (by decide) ?_; clear hS; intro aa hS
      refine sA hS hR (Yld.extract hS rfl rfl) (by decide) ?_; clear hS; intro aa hS
      refine sA hS hR (Yld.extract hS rfl rfl) (by decide) ?_; clear hS; intro aa hS
      refine sB (Balloc hS hR info29 (by rfl) (by rfl) (by decide) ?_); clear hS hR; intro aa ww bb12 hS hR
      refine sB (Bstore hS hR rfl rfl (by rfl) info29 (by rfl) (by repeat (first | with_reducible exact Pk.here | with_reducible apply Pk.there)) (by rfl) (Nat.le_of_ble_eq_true rfl) ?_); clear hR; intro ww hR
      refine sA hS hR (Yld.assign hS rfl) (by decide) ?_; clear hS; intro aa hS
      refine wpList_nil ?_
      refine hK461 _ _ ?_
      refine wp_seq_k ?_; intro K462 hK462
      refine wp_seq_k ?_; intro K463 hK463
      refine wp_region_lit ?_
      refine sA hS hR (Yld.move hS rfl) (by decide) ?_; clear hS; intro aa hS
      refine sA hS hR (Yld.eql hS rfl rfl) (by decide) ?_; clear hS; intro aa hS
      refine hS.splitB (t := 63) rfl ?_ ?_ <;> clear hS
      · intro hg hS
        obtain ⟨i, fs, hfr⟩ := top_yes hg
        rw [Ar.top_of hfr] at hS hR; dsimp only at hS hR
        have hfrl : A.free.length = fs.length + 1 := by rw [hfr]; rfl
        refine sA hS hR (Yld.move hS rfl) (by decide) ?_; clear hS; intro aa hS
        refine sA hS hR (Yld.len hS rfl Try.underlying27) (by decide) ?_; clear hS; intro aa hS
        refine sA hS hR (Yld.move hS rfl) (by decide) ?_; clear hS; intro aa hS
        refine sA hS hR (Yld.lss hS rfl rfl) (by decide) ?_; clear hS; intro aa hS
        replace hS := hS.sayB (t := 67) true rfl (by exact decide_eq_true (by omega))
        refine sA hS hR (Yld.neqB hS rfl rfl Try.underlying4) (by decide) ?_; clear hS; intro aa hS
        replace hS := hS.sayB (t := 68) false rfl (by rfl)
        refine sA hS hR (Yld.move hS rfl) (by decide) ?_; clear hS; intro aa hS
        refine sAg hS hR rfl rfl (Yld.move hS rfl) (by decide) ?_; clear hS; intro aa hS
        refine sAg hS hR rfl rfl (Yld.neq hS rfl rfl) (by decide) ?_; clear hS; intro aa hS
        replace hS := hS.sayB (t := 71) false rfl (by simp)
        refine sAg hS hR rfl rfl (Yld.move hS rfl) (by decide) ?_; clear hS; intro aa hS
        refine sSkip hS rfl rfl rfl (by decide) ?_; clear hS; intro aa hS
        refine sSkip hS rfl rfl rfl (by decide) ?_; clear hS; intro aa hS
        refine sAg hS hR rfl rfl (Yld.pickF hS rfl rfl) (by decide) ?_; clear hS; intro aa hS
        refine sA hS hR (Yld.pickF hS rfl rfl) (by decide) ?_; clear hS; intro aa hS
        refine wpList_nil ?_
        refine hK463 _ _ ?_
        refine condF hS rfl ?_
        refine wp_skip ?_
        refine hK462 _ _ ?_
        refine wp_seq_k ?_; intro K464 hK464
        refine wp_region_lit ?_
        refine sA hS hR (Yld.move hS rfl) (by decide) ?_; clear hS; intro aa hS
        refine sA hS hR (Yld.eql hS rfl rfl) (by decide) ?_; clear hS; intro aa hS
        replace hS := hS.sayB (t := 78) true rfl (by simp)
        refine wpList_nil ?_
        refine hK464 _ _ ?_
        refine condT hS rfl ?_
        refine wp_region_lit ?_
        refine sA hS hR (Yld.move hS rfl) (by decide) ?_; clear hS; intro aa hS
        refine sA hS hR (Yld.loadAgg hS rfl Try.underlying29 rfl info29 (by first | exact Rds.cons (Rd.blk (by repeat (first | with_reducible exact Pk.here | with_reducible apply Pk.there)) (by rfl)) (Rds.cons (Rd.blk (by repeat (first | with_reducible exact Pk.here | with_reducible apply Pk.there)) (by rfl)) (Rds.nil)) | exact Rds.rec (by repeat (first | with_reducible exact Pk.here | with_reducible apply Pk.there)) (by intro _; rfl) (by omega) | exact Rds.flat1 (by repeat (first | with_reducible exact Pk.here | with_reducible apply Pk.there)) (by intro _; rfl) (by omega)) (by rfl)) (by decide) ?_; clear hS; intro aa hS
        refine sB (BbuildSlice hS hR rfl (bls27_1_0 _ _) (by decide) ?_); clear hS hR; intro aa ww bb81 hS hR
        refine sB (BappendR (sz := 2) hS hR rfl rfl Try.underlying27 info29 rfl rfl (by rfl) (by repeat (first | with_reducible exact Pk.here | with_reducible apply Pk.there)) (XC.one (((i : Int), A.turn[i]?.getD 0)) (by repeat (first | with_reducible exact Pk.here | with_reducible apply Pk.there)) (by rfl) rfl) (by intro _; rfl) (by show (_ + _) * 16 ≤ _; first | omega | (simp only [List.length_take, List.length_append, List.length_drop, List.length_cons, List.length_nil, List.length_map]; omega)) (by first | omega | (simp only [List.length_take, List.length_append, List.length_drop, List.length_cons, List.length_nil, List.length_map]; omega)) (by first | rfl | (simp; done) | (simp; omega)) (by decide) ?_); clear hS hR; intro aa ww r82 c82 hS hR
        have hL2 := hLv.take hfr
        have hG2 := hGn.take.mono (show j ≤ j + 1 by omega)
        obtain ⟨A2, hA2⟩ : ∃ x, A.take = x := ⟨_, rfl⟩
        obtain ⟨lv2, hl2⟩ : ∃ x, live ++ [((i : Int), A.turn[i]?.getD 0)] = x := ⟨_, rfl⟩
        obtain ⟨gn2, hg2⟩ : ∃ x, gone = x := ⟨_, rfl⟩
        have hgl2 : gn2.length ≤ j + 1 := by rw [← hg2]; (try simp only [List.length_append, List.length_singleton]); omega
        rw [hA2] at hR hL2 hG2
        rw [hl2] at hR hS hL2
        rw [hg2] at hR hS hG2
        have hcnt := hL2.count
        have hall2 := hL2.all
        have hfl2 : A2.frees.length = A2.free.length := List.length_map _
        refine sA hS hR (Yld.assign hS rfl) (by decide) ?_; clear hS; intro aa hS
        refine wpList_nil ?_
        refine hK459 _ _ ?_
        refine wp_seq_k ?_; intro K465 hK465
        refine wp_region_lit ?_
        refine sA hS hR (Yld.move hS rfl) (by decide) ?_; clear hS; intro aa hS
        refine sB (Bmake (zc := [.bool false]) hS hR rfl rfl Try.underlying42 info4 rfl (by rfl) (by rfl) (by decide) (by omega) (by show ((1 : Nat) : Int) * _ ≤ _; omega) (by omega) (by decide) ?_); clear hS hR; intro aa ww bb114 hS hR
        replace hR := hR.pk (r := blk bb114 _ _) (by repeat (first | with_reducible exact Pk.here | with_reducible apply Pk.there))
        replace hR := Sep.toRecs (m := m) (sz := 1) (enc := eb) (List.replicate m false) hR (by rw [Int.toNat_natCast]; exact zeros_flat (zc := [.bool false]) false m rfl) (by intro _; rfl) (by simp)
        replace hS := hS.say (t := 114) (.slice (some ⟨bb114, 0, none⟩) m m) rfl (by rw [Int.toNat_natCast])
        refine sA hS hR (Yld.assign hS rfl) (by decide) ?_; clear hS; intro aa hS
        refine wpList_nil ?_
        refine hK465 _ _ ?_
        refine wp_seq_k ?_; intro K466 hK466
        refine wp_seq_k ?_; intro K467 hK467
        refine wp_region_lit ?_
        refine sA hS hR (Yld.move hS rfl) (by decide) ?_; clear hS; intro aa hS
        refine sA hS hR (Yld.len hS rfl Try.underlying27) (by decide) ?_; clear hS; intro aa hS
        refine sA hS hR (Yld.move hS rfl) (by decide) ?_; clear hS; intro aa hS
        refine wpList_nil ?_
        refine hK467 _ _ ?_
        refine wp_block ?_
        replace hR := hR.pk (r := sls (some ⟨bb114, 0, none⟩) m m 4 1 ((List.replicate m false).flatMap eb)) (by repeat (first | with_reducible exact Pk.here | with_reducible apply Pk.there))
        refine loopI (X := Nat × List Bool) [(5, _), (6, _), (8, _), (9, _), (11, _), (12, _), (13, _), (15, _), (43, _), (44, _), (45, _), (46, _), (47, _), (48, _), (49, _), (50, _), (51, _), (52, _), (53, _), (54, _), (55, _), (56, _), (57, _), (58, _), (59, _), (60, _), (61, _), (62, _), (63, _), (64, _), (65, _), (66, _), (67, _), (68, _), (69, _), (70, _), (71, _), (72, _), (73, _), (74, _), (75, _), (76, _), (77, _), (78, _), (79, _), (80, _), (81, _), (82, _), (113, _), (114, _), (115, _), (116, _)] (fun x => [(117, .int .i64 (x.1 : Int))]) (fun x => [sls (some ⟨bb114, 0, none⟩) m m 4 1 (x.2.flatMap eb)]) _ (fun x => x.1 ≤ lv2.length ∧ Seen x.2 m (P1 lv2 x.1)) (fun x => lv2.length - x.1) (0, List.replicate m false) ⟨Nat.zero_le _, (Seen.none m).mono (fun i _ => by simp [P1])⟩ (hS.le (Le.cons rfl (Le.nilapp (Le.cons rfl (Le.cons rfl (Le.cons rfl (Le.cons rfl (Le.cons rfl (Le.cons rfl (Le.cons rfl (Le.cons rfl (Le.cons rfl (Le.cons rfl (Le.cons rfl (Le.cons rfl (Le.cons rfl (Le.cons rfl (Le.cons rfl (Le.cons rfl (Le.cons rfl (Le.cons rfl (Le.cons rfl (Le.cons rfl (Le.cons rfl (Le.cons rfl (Le.cons rfl (Le.cons rfl (Le.cons rfl (Le.cons rfl (Le.cons rfl (Le.cons rfl (Le.cons rfl (Le.cons rfl (Le.cons rfl (Le.cons rfl (Le.cons rfl (Le.cons rfl (Le.cons rfl (Le.cons rfl (Le.cons rfl (Le.cons rfl (Le.cons rfl (Le.cons rfl (Le.cons rfl (Le.cons rfl (Le.cons rfl (Le.cons rfl (Le.cons rfl (Le.cons rfl (Le.cons rfl (Le.cons rfl (Le.cons rfl (Le.cons rfl (Le.cons rfl (Le.cons rfl (Le.nil _)))))))))))))))))))))))))))))))))))))))))))))))))))))))) hR ?_
        clear hS hR; rintro ⟨j2, sn⟩ aa ww hI hS hR; dsimp only [List.cons_append, List.nil_append] at hI hS hR
        have hsl := hI.2.1
        refine wp_seq_k ?_; intro K469 hK469
        refine wp_region_lit ?_
        refine sA hS hR (Yld.lss hS rfl rfl) (by decide) ?_; clear hS; intro aa hS
        refine wpList_nil ?_
        refine hK469 _ _ ?_
        refine wp_seq_k ?_; intro K470 hK470
        refine hS.splitB (t := 118) rfl ?_ ?_ <;> clear hS
        · intro hg hS
          obtain ⟨k, hk, hkn, hkl2, hno, hset, hat⟩ := seen1 hL2 (show j2 < lv2.length by omega) hI.2
          refine condT hS rfl ?_
          refine wp_skip ?_
          refine hK470 _ _ ?_
          refine wp_seq_k ?_; intro K471 hK471
          refine wp_block ?_
          refine wp_seq_k ?_; intro K472 hK472
          refine wp_region_lit ?_
          refine sA hS hR ((by first | exact Yld.indexL (sz := 2) _ hS rfl rfl Try.underlying27 info29 (by repeat (first | with_reducible exact Pk.here | with_reducible apply Pk.there)) rfl rfl (by omega) | exact Yld.indexB (sz := 2) _ hS rfl rfl Try.underlying27 info29 rfl rfl (by omega) | exact Yld.indexSlice hS rfl rfl Try.underlying27 info29 (by omega) (by omega))) (by decide) ?_; clear hS; intro aa hS
          refine sA hS hR (Yld.loadAgg hS rfl Try.underlying29 rfl info29 (by first | exact Rds.cons (Rd.blk (by repeat (first | with_reducible exact Pk.here | with_reducible apply Pk.there)) (by rfl)) (Rds.cons (Rd.blk (by repeat (first | with_reducible exact Pk.here | with_reducible apply Pk.there)) (by rfl)) (Rds.nil)) | exact Rds.rec (by repeat (first | with_reducible exact Pk.here | with_reducible apply Pk.there)) (by intro _; rfl) (by omega) | exact Rds.flat1 (by repeat (first | with_reducible exact Pk.here | with_reducible apply Pk.there)) (by intro _; rfl) (by omega)) (by rfl)) (by decide) ?_; clear hS; intro aa hS
          refine sB (Balloc hS hR info29 (by rfl) (by rfl) (by decide) ?_); clear hS hR; intro aa ww bb17 hS hR
          refine sB (Bstore hS hR rfl rfl (by rfl) info29 (by rfl) (by repeat (first | with_reducible exact Pk.here | with_reducible apply Pk.there)) (by rfl) (Nat.le_of_ble_eq_true rfl) ?_); clear hR; intro ww hR
          refine wpList_nil ?_
          refine hK472 _ _ ?_
          refine wp_seq_k ?_; intro K473 hK473
          refine wp_seq_k ?_; intro K474 hK474
          refine wp_region_lit ?_
          refine sA hS hR (Yld.fieldAddr hS rfl 0 Try.underlying29 rfl rfl info3 (by decide)) (by decide) ?_; clear hS; intro aa hS
          refine sA hS hR (Yld.load1 hS rfl Try.underlying3 rfl (by first | exact Rd.blk (by repeat (first | with_reducible exact Pk.here | with_reducible apply Pk.there)) (by rfl) | exact Rd.rec (by repeat (first | with_reducible exact Pk.here | with_reducible apply Pk.there)) (by intro _; rfl) (by omega) rfl | exact Rd.rec0 (by repeat (first | with_reducible exact Pk.here | with_reducible apply Pk.there)) (by intro _; rfl) (by omega) rfl | exact Rd.flatJ (by repeat (first | with_reducible exact Pk.here | with_reducible apply Pk.there)) (by intro _; rfl) (by omega) rfl | exact Rd.flat0 (by repeat (first | with_reducible exact Pk.here | with_reducible apply Pk.there)) (by intro _; rfl) (by omega) rfl)) (by decide) ?_; clear hS; intro aa hS
          refine sA hS hR (Yld.lss hS rfl rfl) (by decide) ?_; clear hS; intro aa hS
          replace hS := hS.sayB (t := 123) false rfl (by exact decide_eq_false (by omega))
          refine sA hS hR (Yld.move hS rfl) (by decide) ?_; clear hS; intro aa hS
          refine sAg hS hR rfl rfl (Yld.fieldAddr hS rfl 0 Try.underlying29 rfl rfl info3 (by decide)) (by decide) ?_; clear hS; intro aa hS
          refine sAg hS hR rfl rfl (Yld.load1 hS rfl Try.underlying3 rfl (by first | exact Rd.blk (by repeat (first | with_reducible exact Pk.here | with_reducible apply Pk.there)) (by rfl) | exact Rd.rec (by repeat (first | with_reducible exact Pk.here | with_reducible apply Pk.there)) (by intro _; rfl) (by omega) rfl | exact Rd.rec0 (by repeat (first | with_reducible exact Pk.here | with_reducible apply Pk.there)) (by intro _; rfl) (by omega) rfl | exact Rd.flatJ (by repeat (first | with_reducible exact Pk.here | with_reducible apply Pk.there)) (by intro _; rfl) (by omega) rfl | exact Rd.flat0 (by repeat (first | with_reducible exact Pk.here | with_reducible apply Pk.there)) (by intro _; rfl) (by omega) rfl)) (by decide) ?_; clear hS; intro aa hS
          refine sAg hS hR rfl rfl (Yld.move hS rfl) (by decide) ?_; clear hS; intro aa hS
          refine sAg hS hR rfl rfl (Yld.geq hS rfl rfl) (by decide) ?_; clear hS; intro aa hS
          replace hS := hS.sayB (t := 128) false rfl (by exact decide_eq_false (by omega))
          refine sA hS hR (Yld.pickF hS rfl rfl) (by decide) ?_; clear hS; intro aa hS
          refine sA hS hR (Yld.move hS rfl) (by decide) ?_; clear hS; intro aa hS
          refine sAg hS hR rfl rfl (Yld.move hS rfl) (by decide) ?_; clear hS; intro aa hS
          refine sAg hS hR rfl rfl (Yld.fieldAddr hS rfl 0 Try.underlying29 rfl rfl info3 (by decide)) (by decide) ?_; clear hS; intro aa hS
          refine sAg hS hR rfl rfl (Yld.load1 hS rfl Try.underlying3 rfl (by first | exact Rd.blk (by repeat (first | with_reducible exact Pk.here | with_reducible apply Pk.there)) (by rfl) | exact Rd.rec (by repeat (first | with_reducible exact Pk.here | with_reducible apply Pk.there)) (by intro _; rfl) (by omega) rfl | exact Rd.rec0 (by repeat (first | with_reducible exact Pk.here | with_reducible apply Pk.there)) (by intro _; rfl) (by omega) rfl | exact Rd.flatJ (by repeat (first | with_reducible exact Pk.here | with_reducible apply Pk.there)) (by intro _; rfl) (by omega) rfl | exact Rd.flat0 (by repeat (first | with_reducible exact Pk.here | with_reducible apply Pk.there)) (by intro _; rfl) (by omega) rfl)) (by decide) ?_; clear hS; intro aa hS
          refine sAg hS hR rfl rfl ((by first | exact Yld.indexL (sz := 1) (k) hS rfl rfl Try.underlying42 info4 (by repeat (first | with_reducible exact Pk.here | with_reducible apply Pk.there)) rfl (by first | rfl | omega) (by omega) | exact Yld.indexB (sz := 1) (k) hS rfl rfl Try.underlying42 info4 rfl (by first | rfl | omega) (by omega))) (by decide) ?_; clear hS; intro aa hS
          refine sAg hS hR rfl rfl (Yld.load1 hS rfl Try.underlying4 rfl (by first | exact Rd.blk (by repeat (first | with_reducible exact Pk.here | with_reducible apply Pk.there)) (by rfl) | exact Rd.rec (by repeat (first | with_reducible exact Pk.here | with_reducible apply Pk.there)) (by intro _; rfl) (by omega) rfl | exact Rd.rec0 (by repeat (first | with_reducible exact Pk.here | with_reducible apply Pk.there)) (by intro _; rfl) (by omega) rfl | exact Rd.flatJ (by repeat (first | with_reducible exact Pk.here | with_reducible apply Pk.there)) (by intro _; rfl) (by omega) rfl | exact Rd.flat0 (by repeat (first | with_reducible exact Pk.here | with_reducible apply Pk.there)) (by intro _; rfl) (by omega) rfl)) (by decide) ?_; clear hS; intro aa hS
          replace hS := hS.sayB (t := 135) false rfl (by exact hno _)
          refine sA hS hR (Yld.pickF hS rfl rfl) (by decide) ?_; clear hS; intro aa hS
          refine sA hS hR (Yld.move hS rfl) (by decide) ?_; clear hS; intro aa hS
          refine sAg hS hR rfl rfl (Yld.move hS rfl) (by decide) ?_; clear hS; intro aa hS
          refine sAg hS hR rfl rfl (Yld.loadAgg hS rfl Try.underlying29 rfl info29 (by first | exact Rds.cons (Rd.blk (by repeat (first | with_reducible exact Pk.here | with_reducible apply Pk.there)) (by rfl)) (Rds.cons (Rd.blk (by repeat (first | with_reducible exact Pk.here | with_reducible apply Pk.there)) (by rfl)) (Rds.nil)) | exact Rds.rec (by repeat (first | with_reducible exact Pk.here | with_reducible apply Pk.there)) (by intro _; rfl) (by omega) | exact Rds.flat1 (by repeat (first | with_reducible exact Pk.here | with_reducible apply Pk.there)) (by intro _; rfl) (by omega)) (by rfl)) (by decide) ?_; clear hS; intro aa hS
          refine sBg hS rfl rfl (Bcall hS rfl Try.call13 (Live_okA (hR.pk (r := arena 57 60 _ _) (by repeat (first | with_reducible exact Pk.here | with_reducible apply Pk.there)))) (by decide) ?_); clear hS; intro aa ww vv hS hp
          clear hR
          obtain ⟨rfl, hR⟩ := hp
          replace hS := hS.sayB (t := 140) true rfl (by exact decide_eq_true hat)
          refine sAg hS hR rfl rfl (Yld.not hS rfl) (by decide) ?_; clear hS; intro aa hS
          refine sA hS hR (Yld.pickF hS rfl rfl) (by decide) ?_; clear hS; intro aa hS
          refine wpList_nil ?_
          refine hK474 _ _ ?_
          refine condF hS rfl ?_
          refine wp_skip ?_
          refine hK473 _ _ ?_
          refine wp_region_lit ?_
          refine sA hS hR (Yld.move hS rfl) (by decide) ?_; clear hS; intro aa hS
          refine sA hS hR (Yld.fieldAddr hS rfl 0 Try.underlying29 rfl rfl info3 (by decide)) (by decide) ?_; clear hS; intro aa hS
          refine sA hS hR (Yld.load1 hS rfl Try.underlying3 rfl (by first | exact Rd.blk (by repeat (first | with_reducible exact Pk.here | with_reducible apply Pk.there)) (by rfl) | exact Rd.rec (by repeat (first | with_reducible exact Pk.here | with_reducible apply Pk.there)) (by intro _; rfl) (by omega) rfl | exact Rd.rec0 (by repeat (first | with_reducible exact Pk.here | with_reducible apply Pk.there)) (by intro _; rfl) (by omega) rfl | exact Rd.flatJ (by repeat (first | with_reducible exact Pk.here | with_reducible apply Pk.there)) (by intro _; rfl) (by omega) rfl | exact Rd.flat0 (by repeat (first | with_reducible exact Pk.here | with_reducible apply Pk.there)) (by intro _; rfl) (by omega) rfl)) (by decide) ?_; clear hS; intro aa hS
          refine sA hS hR ((by first | exact Yld.indexL (sz := 1) (k) hS rfl rfl Try.underlying42 info4 (by repeat (first | with_reducible exact Pk.here | with_reducible apply Pk.there)) rfl (by first | rfl | omega) (by omega) | exact Yld.indexB (sz := 1) (k) hS rfl rfl Try.underlying42 info4 rfl (by first | rfl | omega) (by omega))) (by decide) ?_; clear hS; intro aa hS
          refine sB (BstoreR0 (true) hS hR rfl rfl (by rfl) info4 (by rfl) (by repeat (first | with_reducible exact Pk.here | with_reducible apply Pk.there)) (by rfl) (by intro _; rfl) (by omega) (Nat.le_of_ble_eq_true rfl) (Nat.le_of_ble_eq_true rfl) (by rfl) ?_); clear hR; intro ww hR
          refine wpList_nil ?_
          refine hK471 _ _ ?_
          refine wp_region_lit ?_
          refine sA hS hR ((by first | exact Yld.add64 hS rfl rfl (by omega) | exact Yld.add hS rfl rfl)) (by decide) ?_; clear hS; intro aa hS
          refine sA hS hR (Yld.move hS rfl) (by decide) ?_; clear hS; intro aa hS
          refine wpList_nil ?_
          
          refine ⟨(j2 + 1, _), ?_, ?_, hS.le (Le.cons rfl (Le.nilapp (Le.cons rfl (Le.cons rfl (Le.cons rfl (Le.cons rfl (Le.cons rfl (Le.cons rfl (Le.cons rfl (Le.cons rfl (Le.cons rfl (Le.cons rfl (Le.cons rfl (Le.cons rfl (Le.cons rfl (Le.cons rfl (Le.cons rfl (Le.cons rfl (Le.cons rfl (Le.cons rfl (Le.cons rfl (Le.cons rfl (Le.cons rfl (Le.cons rfl (Le.cons rfl (Le.cons rfl (Le.cons rfl (Le.cons rfl (Le.cons rfl (Le.cons rfl (Le.cons rfl (Le.cons rfl (Le.cons rfl (Le.cons rfl (Le.cons rfl (Le.cons rfl (Le.cons rfl (Le.cons rfl (Le.cons rfl (Le.cons rfl (Le.cons rfl (Le.cons rfl (Le.cons rfl (Le.cons rfl (Le.cons rfl (Le.cons rfl (Le.cons rfl (Le.cons rfl (Le.cons rfl (Le.cons rfl (Le.cons rfl (Le.cons rfl (Le.cons rfl (Le.cons rfl (Le.nil _))))))))))))))))))))))))))))))))))))))))))))))))))))))), hR.sub (Ex.take (by repeat (first | with_reducible exact Pk.here | with_reducible apply Pk.there)) (Ex.nilapp (by repeat (first | with_reducible exact Ex.refl | (with_reducible apply Ex.take; · repeat (first | with_reducible exact Pk.here | with_reducible apply Pk.there)) | with_reducible apply Ex.drop))))⟩
          · dsimp only; exact ⟨by omega, hset⟩
          · dsimp only; omega
        · intro hg hS
          have hSn : Seen sn m (P2 lv2 A2.free 0) := by
            have h9 := hI.2
            rw [show j2 = lv2.length by omega] at h9
            exact seen1_all h9
          refine condF hS rfl ?_
          refine wp_exit ?_
          refine hK466 _ _ ?_
          refine wp_seq_k ?_; intro K475 hK475
          refine wp_seq_k ?_; intro K476 hK476
          refine wp_region_lit ?_
          refine sA hS hR (Yld.move hS rfl) (by decide) ?_; clear hS; intro aa hS
          refine sB (Bcall hS rfl Try.call14 (Free_okA (hR.pk (r := arena 57 60 _ _) (by repeat (first | with_reducible exact Pk.here | with_reducible apply Pk.there)))) (by decide) ?_); clear hS; intro aa ww vv hS hp
          clear hR
          obtain ⟨rf, cf, rfl, hR⟩ := hp
          rw [← hfl2] at hR hS
          refine sA hS hR (Yld.len hS rfl Try.underlying36) (by decide) ?_; clear hS; intro aa hS
          refine sA hS hR (Yld.move hS rfl) (by decide) ?_; clear hS; intro aa hS
          refine wpList_nil ?_
          refine hK476 _ _ ?_
          refine wp_block ?_
          replace hR := hR.pk (r := sls (some ⟨bb114, 0, none⟩) m m 4 1 (sn.flatMap eb)) (by repeat (first | with_reducible exact Pk.here | with_reducible apply Pk.there))
          refine loopI (X := Nat × List Bool) [(5, _), (6, _), (8, _), (9, _), (11, _), (12, _), (13, _), (15, _), (43, _), (44, _), (45, _), (46, _), (47, _), (48, _), (49, _), (50, _), (51, _), (52, _), (53, _), (54, _), (55, _), (56, _), (57, _), (58, _), (59, _), (60, _), (61, _), (62, _), (63, _), (64, _), (65, _), (66, _), (67, _), (68, _), (69, _), (70, _), (71, _), (72, _), (73, _), (74, _), (75, _), (76, _), (77, _), (78, _), (79, _), (80, _), (81, _), (82, _), (113, _), (114, _), (115, _), (116, _), (117, _), (118, _), (148, _), (149, _), (150, _)] (fun x => [(151, .int .i64 (x.1 : Int))]) (fun x => [sls (some ⟨bb114, 0, none⟩) m m 4 1 (x.2.flatMap eb)]) _ (fun x => x.1 ≤ A2.free.length ∧ Seen x.2 m (P2 lv2 A2.free x.1)) (fun x => A2.free.length - x.1) (0, sn) ⟨Nat.zero_le _, hSn⟩ (hS.le (Le.cons rfl (Le.nilapp (Le.cons rfl (Le.cons rfl (Le.cons rfl (Le.cons rfl (Le.cons rfl (Le.cons rfl (Le.cons rfl (Le.cons rfl (Le.cons rfl (Le.cons rfl (Le.cons rfl (Le.cons rfl (Le.cons rfl (Le.cons rfl (Le.cons rfl (Le.cons rfl (Le.cons rfl (Le.cons rfl (Le.cons rfl (Le.cons rfl (Le.cons rfl (Le.cons rfl (Le.cons rfl (Le.cons rfl (Le.cons rfl (Le.cons rfl (Le.cons rfl (Le.cons rfl (Le.cons rfl (Le.cons rfl (Le.cons rfl (Le.cons rfl (Le.cons rfl (Le.cons rfl (Le.cons rfl (Le.cons rfl (Le.cons rfl (Le.cons rfl (Le.cons rfl (Le.cons rfl (Le.cons rfl (Le.cons rfl (Le.cons rfl (Le.cons rfl (Le.cons rfl (Le.cons rfl (Le.cons rfl (Le.cons rfl (Le.cons rfl (Le.cons rfl (Le.cons rfl (Le.cons rfl (Le.cons rfl (Le.cons rfl (Le.cons rfl (Le.cons rfl (Le.cons rfl (Le.nil _))))))))))))))))))))))))))))))))))))))))))))))))))))))))))))) hR ?_
          clear hS hR; rintro ⟨j4, sn4⟩ aa ww hI hS hR; dsimp only [List.cons_append, List.nil_append] at hI hS hR
          have hsl4 := hI.2.1
          have hI4 := hI
          refine wp_seq_k ?_; intro K478 hK478
          refine wp_region_lit ?_
          refine sA hS hR (Yld.lss hS rfl rfl) (by decide) ?_; clear hS; intro aa hS
          refine wpList_nil ?_
          refine hK478 _ _ ?_
          refine wp_seq_k ?_; intro K479 hK479
          refine hS.splitB (t := 152) rfl ?_ ?_ <;> clear hS
          · intro hg hS
            obtain ⟨hk4, hno4, hset4⟩ := seen2 hL2 (show j4 < A2.free.length by omega) hI.2
            have hsl := hI.2.1
            obtain ⟨k4, hk4e⟩ : ∃ k : Nat, A2.free[j4]'(by omega) = k := ⟨_, rfl⟩
            rw [hk4e] at hk4 hset4
            replace hno4 : ∀ h : k4 < sn4.length, sn4[k4] = false := by subst hk4e; exact hno4
            have hfj : A2.frees[j4]'(by omega) = (k4 : Int) := by simp [Ar.frees, hk4e]
            refine condT hS rfl ?_
            refine wp_skip ?_
            refine hK479 _ _ ?_
            refine wp_seq_k ?_; intro K480 hK480
            refine wp_block ?_
            refine wp_seq_k ?_; intro K481 hK481
            refine wp_region_lit ?_
            refine sA hS hR ((by first | exact Yld.indexL (sz := 1) _ hS rfl rfl Try.underlying36 info3 (by repeat (first | with_reducible exact Pk.here | with_reducible apply Pk.there)) rfl rfl (by omega) | exact Yld.indexB (sz := 1) _ hS rfl rfl Try.underlying36 info3 rfl rfl (by omega) | exact Yld.indexSlice hS rfl rfl Try.underlying36 info3 (by omega) (by omega))) (by decide) ?_; clear hS; intro aa hS
            refine sA hS hR (Yld.load1 hS rfl Try.underlying3 rfl (by first | exact Rd.blk (by repeat (first | with_reducible exact Pk.here | with_reducible apply Pk.there)) (by rfl) | exact Rd.rec (by repeat (first | with_reducible exact Pk.here | with_reducible apply Pk.there)) (by intro _; rfl) (by omega) rfl | exact Rd.rec0 (by repeat (first | with_reducible exact Pk.here | with_reducible apply Pk.there)) (by intro _; rfl) (by omega) rfl | exact Rd.flatJ (by repeat (first | with_reducible exact Pk.here | with_reducible apply Pk.there)) (by intro _; rfl) (by omega) rfl | exact Rd.flat0 (by repeat (first | with_reducible exact Pk.here | with_reducible apply Pk.there)) (by intro _; rfl) (by omega) rfl)) (by decide) ?_; clear hS; intro aa hS
            replace hS := hS.say (t := 154) (.int .i64 (k4 : Int)) rfl (by rw [hfj])
            refine sA hS hR (Yld.assign hS rfl) (by decide) ?_; clear hS; intro aa hS
            refine wpList_nil ?_
            refine hK481 _ _ ?_
            refine wp_seq_k ?_; intro K482 hK482
            refine wp_seq_k ?_; intro K483 hK483
            refine wp_region_lit ?_
            refine sA hS hR (Yld.move hS rfl) (by decide) ?_; clear hS; intro aa hS
            refine sA hS hR (Yld.lss hS rfl rfl) (by decide) ?_; clear hS; intro aa hS
            replace hS := hS.sayB (t := 156) false rfl (by exact decide_eq_false (by omega))
            refine sA hS hR (Yld.move hS rfl) (by decide) ?_; clear hS; intro aa hS
            refine sAg hS hR rfl rfl (Yld.move hS rfl) (by decide) ?_; clear hS; intro aa hS
            refine sAg hS hR rfl rfl (Yld.move hS rfl) (by decide) ?_; clear hS; intro aa hS
            refine sAg hS hR rfl rfl (Yld.geq hS rfl rfl) (by decide) ?_; clear hS; intro aa hS
            replace hS := hS.sayB (t := 160) false rfl (by exact decide_eq_false (by omega))
            refine sA hS hR (Yld.pickF hS rfl rfl) (by decide) ?_; clear hS; intro aa hS
            refine sA hS hR (Yld.move hS rfl) (by decide) ?_; clear hS; intro aa hS
            refine sAg hS hR rfl rfl (Yld.move hS rfl) (by decide) ?_; clear hS; intro aa hS
            refine sAg hS hR rfl rfl (Yld.move hS rfl) (by decide) ?_; clear hS; intro aa hS
            refine sAg hS hR rfl rfl ((by first | exact Yld.indexL (sz := 1) (k4) hS rfl rfl Try.underlying42 info4 (by repeat (first | with_reducible exact Pk.here | with_reducible apply Pk.there)) rfl (by first | rfl | omega) (by omega) | exact Yld.indexB (sz := 1) (k4) hS rfl rfl Try.underlying42 info4 rfl (by first | rfl | omega) (by omega))) (by decide) ?_; clear hS; intro aa hS
            refine sAg hS hR rfl rfl (Yld.load1 hS rfl Try.underlying4 rfl (by first | exact Rd.blk (by repeat (first | with_reducible exact Pk.here | with_reducible apply Pk.there)) (by rfl) | exact Rd.rec (by repeat (first | with_reducible exact Pk.here | with_reducible apply Pk.there)) (by intro _; rfl) (by omega) rfl | exact Rd.rec0 (by repeat (first | with_reducible exact Pk.here | with_reducible apply Pk.there)) (by intro _; rfl) (by omega) rfl | exact Rd.flatJ (by repeat (first | with_reducible exact Pk.here | with_reducible apply Pk.there)) (by intro _; rfl) (by omega) rfl | exact Rd.flat0 (by repeat (first | with_reducible exact Pk.here | with_reducible apply Pk.there)) (by intro _; rfl) (by omega) rfl)) (by decide) ?_; clear hS; intro aa hS
            replace hS := hS.sayB (t := 166) false rfl (by exact hno4 _)
            refine sA hS hR (Yld.pickF hS rfl rfl) (by decide) ?_; clear hS; intro aa hS
            refine wpList_nil ?_
            refine hK483 _ _ ?_
            refine condF hS rfl ?_
            refine wp_skip ?_
            refine hK482 _ _ ?_
            refine wp_region_lit ?_
            refine sA hS hR (Yld.move hS rfl) (by decide) ?_; clear hS; intro aa hS
            refine sA hS hR (Yld.move hS rfl) (by decide) ?_; clear hS; intro aa hS
            refine sA hS hR ((by first | exact Yld.indexL (sz := 1) (k4) hS rfl rfl Try.underlying42 info4 (by repeat (first | with_reducible exact Pk.here | with_reducible apply Pk.there)) rfl (by first | rfl | omega) (by omega) | exact Yld.indexB (sz := 1) (k4) hS rfl rfl Try.underlying42 info4 rfl (by first | rfl | omega) (by omega))) (by decide) ?_; clear hS; intro aa hS
            refine sB (BstoreR0 (true) hS hR rfl rfl (by rfl) info4 (by rfl) (by repeat (first | with_reducible exact Pk.here | with_reducible apply Pk.there)) (by rfl) (by intro _; rfl) (by omega) (Nat.le_of_ble_eq_true rfl) (Nat.le_of_ble_eq_true rfl) (by rfl) ?_); clear hR; intro ww hR
            refine wpList_nil ?_
            refine hK480 _ _ ?_
            refine wp_region_lit ?_
            refine sA hS hR ((by first | exact Yld.add64 hS rfl rfl (by omega) | exact Yld.add hS rfl rfl)) (by decide) ?_; clear hS; intro aa hS
            refine sA hS hR (Yld.move hS rfl) (by decide) ?_; clear hS; intro aa hS
            refine wpList_nil ?_
            
            refine ⟨(j4 + 1, _), ?_, ?_, hS.le (Le.cons rfl (Le.nilapp (Le.cons rfl (Le.cons rfl (Le.cons rfl (Le.cons rfl (Le.cons rfl (Le.cons rfl (Le.cons rfl (Le.cons rfl (Le.cons rfl (Le.cons rfl (Le.cons rfl (Le.cons rfl (Le.cons rfl (Le.cons rfl (Le.cons rfl (Le.cons rfl (Le.cons rfl (Le.cons rfl (Le.cons rfl (Le.cons rfl (Le.cons rfl (Le.cons rfl (Le.cons rfl (Le.cons rfl (Le.cons rfl (Le.cons rfl (Le.cons rfl (Le.cons rfl (Le.cons rfl (Le.cons rfl (Le.cons rfl (Le.cons rfl (Le.cons rfl (Le.cons rfl (Le.cons rfl (Le.cons rfl (Le.cons rfl (Le.cons rfl (Le.cons rfl (Le.cons rfl (Le.cons rfl (Le.cons rfl (Le.cons rfl (Le.cons rfl (Le.cons rfl (Le.cons rfl (Le.cons rfl (Le.cons rfl (Le.cons rfl (Le.cons rfl (Le.cons rfl (Le.cons rfl (Le.cons rfl (Le.cons rfl (Le.cons rfl (Le.cons rfl (Le.cons rfl (Le.nil _)))))))))))))))))))))))))))))))))))))))))))))))))))))))))))), hR.sub (Ex.take (by repeat (first | with_reducible exact Pk.here | with_reducible apply Pk.there)) (Ex.nilapp (by repeat (first | with_reducible exact Ex.refl | (with_reducible apply Ex.take; · repeat (first | with_reducible exact Pk.here | with_reducible apply Pk.there)) | with_reducible apply Ex.drop))))⟩
            · dsimp only; exact ⟨by omega, hset4⟩
            · dsimp only; omega
          · intro hg hS
            refine condF hS rfl ?_
            refine wp_exit ?_
            refine hK475 _ _ ?_
            refine wp_seq_k ?_; intro K484 hK484
            refine wp_seq_k ?_; intro K485 hK485
            refine wp_region_lit ?_
            refine sA hS hR (Yld.move hS rfl) (by decide) ?_; clear hS; intro aa hS
            refine sA hS hR (Yld.len hS rfl Try.underlying42) (by decide) ?_; clear hS; intro aa hS
            refine sA hS hR (Yld.move hS rfl) (by decide) ?_; clear hS; intro aa hS
            refine wpList_nil ?_
            refine hK485 _ _ ?_
            refine wp_block ?_
            replace hI4 : _ ∧ Seen sn4 m (P2 lv2 A2.free A2.free.length) := ⟨hI4.1, by rw [show A2.free.length = j4 by omega]; exact hI4.2⟩
            refine loopI (X := Nat) [(5, _), (6, _), (8, _), (9, _), (11, _), (12, _), (13, _), (15, _), (43, _), (44, _), (45, _), (46, _), (47, _), (48, _), (49, _), (50, _), (51, _), (52, _), (53, _), (54, _), (55, _), (56, _), (57, _), (58, _), (59, _), (60, _), (61, _), (62, _), (63, _), (64, _), (65, _), (66, _), (67, _), (68, _), (69, _), (70, _), (71, _), (72, _), (73, _), (74, _), (75, _), (76, _), (77, _), (78, _), (79, _), (80, _), (81, _), (82, _), (113, _), (114, _), (115, _), (116, _), (117, _), (118, _), (148, _), (149, _), (150, _), (151, _), (152, _), (172, _), (173, _)] (fun x => [(174, .int .i64 (x : Int))]) (fun x => []) _ (fun x => x ≤ m) (fun x => m - x) 0 (Nat.zero_le _) (hS.le (Le.cons rfl (Le.nilapp (Le.cons rfl (Le.cons rfl (Le.cons rfl (Le.cons rfl (Le.cons rfl (Le.cons rfl (Le.cons rfl (Le.cons rfl (Le.cons rfl (Le.cons rfl (Le.cons rfl (Le.cons rfl (Le.cons rfl (Le.cons rfl (Le.cons rfl (Le.cons rfl (Le.cons rfl (Le.cons rfl (Le.cons rfl (Le.cons rfl (Le.cons rfl (Le.cons rfl (Le.cons rfl (Le.cons rfl (Le.cons rfl (Le.cons rfl (Le.cons rfl (Le.cons rfl (Le.cons rfl (Le.cons rfl (Le.cons rfl (Le.cons rfl (Le.cons rfl (Le.cons rfl (Le.cons rfl (Le.cons rfl (Le.cons rfl (Le.cons rfl (Le.cons rfl (Le.cons rfl (Le.cons rfl (Le.cons rfl (Le.cons rfl (Le.cons rfl (Le.cons rfl (Le.cons rfl (Le.cons rfl (Le.cons rfl (Le.cons rfl (Le.cons rfl (Le.cons rfl (Le.cons rfl (Le.cons rfl (Le.cons rfl (Le.cons rfl (Le.cons rfl (Le.cons rfl (Le.cons rfl (Le.cons rfl (Le.cons rfl (Le.cons rfl (Le.nil _))))))))))))))))))))))))))))))))))))))))))))))))))))))))))))))))) hR ?_
            clear hS hR; rintro k6 aa ww hI hS hR; dsimp only [List.cons_append, List.nil_append] at hI hS hR
            refine wp_seq_k ?_; intro K487 hK487
            refine wp_region_lit ?_
            refine sA hS hR (Yld.lss hS rfl rfl) (by decide) ?_; clear hS; intro aa hS
            refine wpList_nil ?_
            refine hK487 _ _ ?_
            refine wp_seq_k ?_; intro K488 hK488
            refine hS.splitB (t := 175) rfl ?_ ?_ <;> clear hS
            · intro hg hS
              have hy := seen3 hL2 hI4.2 (show k6 < sn4.length by omega)
              refine condT hS rfl ?_
              refine wp_skip ?_
              refine hK488 _ _ ?_
              refine wp_seq_k ?_; intro K489 hK489
              refine wp_block ?_
              refine wp_seq_k ?_; intro K490 hK490
              refine wp_region_lit ?_
              refine sA hS hR ((by first | exact Yld.indexL (sz := 1) _ hS rfl rfl Try.underlying42 info4 (by repeat (first | with_reducible exact Pk.here | with_reducible apply Pk.there)) rfl rfl (by omega) | exact Yld.indexB (sz := 1) _ hS rfl rfl Try.underlying42 info4 rfl rfl (by omega) | exact Yld.indexSlice hS rfl rfl Try.underlying42 info4 (by omega) (by omega))) (by decide) ?_; clear hS; intro aa hS
              refine sA hS hR (Yld.load1 hS rfl Try.underlying4 rfl (by first | exact Rd.blk (by repeat (first | with_reducible exact Pk.here | with_reducible apply Pk.there)) (by rfl) | exact Rd.rec (by repeat (first | with_reducible exact Pk.here | with_reducible apply Pk.there)) (by intro _; rfl) (by omega) rfl | exact Rd.rec0 (by repeat (first | with_reducible exact Pk.here | with_reducible apply Pk.there)) (by intro _; rfl) (by omega) rfl | exact Rd.flatJ (by repeat (first | with_reducible exact Pk.here | with_reducible apply Pk.there)) (by intro _; rfl) (by omega) rfl | exact Rd.flat0 (by repeat (first | with_reducible exact Pk.here | with_reducible apply Pk.there)) (by intro _; rfl) (by omega) rfl)) (by decide) ?_; clear hS; intro aa hS
              replace hS := hS.sayB (t := 177) true rfl (by exact hy)
              refine sA hS hR (Yld.assign hS rfl) (by decide) ?_; clear hS; intro aa hS
              refine wpList_nil ?_
              refine hK490 _ _ ?_
              refine wp_seq_k ?_; intro K491 hK491
              refine wp_region_lit ?_
              refine sA hS hR (Yld.move hS rfl) (by decide) ?_; clear hS; intro aa hS
              refine sA hS hR (Yld.not hS rfl) (by decide) ?_; clear hS; intro aa hS
              refine wpList_nil ?_
              refine hK491 _ _ ?_
              refine condF hS rfl ?_
              refine wp_skip ?_
              refine hK489 _ _ ?_
              refine wp_region_lit ?_
              refine sA hS hR ((by first | exact Yld.add64 hS rfl rfl (by omega) | exact Yld.add hS rfl rfl)) (by decide) ?_; clear hS; intro aa hS
              refine sA hS hR (Yld.move hS rfl) (by decide) ?_; clear hS; intro aa hS
              refine wpList_nil ?_
              
              refine ⟨k6 + 1, ?_, ?_, hS.le (Le.cons rfl (Le.nilapp (Le.cons rfl (Le.cons rfl (Le.cons rfl (Le.cons rfl (Le.cons rfl (Le.cons rfl (Le.cons rfl (Le.cons rfl (Le.cons rfl (Le.cons rfl (Le.cons rfl (Le.cons rfl (Le.cons rfl (Le.cons rfl (Le.cons rfl (Le.cons rfl (Le.cons rfl (Le.cons rfl (Le.cons rfl (Le.cons rfl (Le.cons rfl (Le.cons rfl (Le.cons rfl (Le.cons rfl (Le.cons rfl (Le.cons rfl (Le.cons rfl (Le.cons rfl (Le.cons rfl (Le.cons rfl (Le.cons rfl (Le.cons rfl (Le.cons rfl (Le.cons rfl (Le.cons rfl (Le.cons rfl (Le.cons rfl (Le.cons rfl (Le.cons rfl (Le.cons rfl (Le.cons rfl (Le.cons rfl (Le.cons rfl (Le.cons rfl (Le.cons rfl (Le.cons rfl (Le.cons rfl (Le.cons rfl (Le.cons rfl (Le.cons rfl (Le.cons rfl (Le.cons rfl (Le.cons rfl (Le.cons rfl (Le.cons rfl (Le.cons rfl (Le.cons rfl (Le.cons rfl (Le.cons rfl (Le.cons rfl (Le.cons rfl (Le.nil _)))))))))))))))))))))))))))))))))))))))))))))))))))))))))))))))), hR.sub (Ex.nilapp (by repeat (first | with_reducible exact Ex.refl | (with_reducible apply Ex.take; · repeat (first | with_reducible exact Pk.here | with_reducible apply Pk.there)) | with_reducible apply Ex.drop)))⟩
              · omega
              · omega
            · intro hg hS
              refine condF hS rfl ?_
              refine wp_exit ?_
              refine hK484 _ _ ?_
              refine wp_seq_k ?_; intro K492 hK492
              refine wp_region_lit ?_
              refine sA hS hR (Yld.move hS rfl) (by decide) ?_; clear hS; intro aa hS
              refine sB (Bcall hS rfl Try.call15 (Count_okA (hR.pk (r := arena 57 60 _ _) (by repeat (first | with_reducible exact Pk.here | with_reducible apply Pk.there)))) (by decide) ?_); clear hS; intro aa ww vv hS hp
              clear hR
              obtain ⟨rfl, hR⟩ := hp
              refine sA hS hR (Yld.move hS rfl) (by decide) ?_; clear hS; intro aa hS
              refine sA hS hR (Yld.len hS rfl Try.underlying27) (by decide) ?_; clear hS; intro aa hS
              refine sA hS hR (Yld.neq hS rfl rfl) (by decide) ?_; clear hS; intro aa hS
              replace hS := hS.sayB (t := 185) false rfl (by exact decide_eq_false (by omega))
              refine sA hS hR (Yld.move hS rfl) (by decide) ?_; clear hS; intro aa hS
              refine sAg hS hR rfl rfl (Yld.move hS rfl) (by decide) ?_; clear hS; intro aa hS
              refine sBg hS rfl rfl (Bcall hS rfl Try.call17 (All_okA (hR.pk (r := arena 57 60 _ _) (by repeat (first | with_reducible exact Pk.here | with_reducible apply Pk.there)))) (by decide) ?_); clear hS; intro aa ww vv hS hp
              clear hR
              obtain ⟨ra, ca, rfl, hR⟩ := hp
              refine sAg hS hR rfl rfl (Yld.len hS rfl Try.underlying27) (by decide) ?_; clear hS; intro aa hS
              refine sAg hS hR rfl rfl (Yld.move hS rfl) (by decide) ?_; clear hS; intro aa hS
              refine sAg hS hR rfl rfl (Yld.len hS rfl Try.underlying27) (by decide) ?_; clear hS; intro aa hS
              refine sAg hS hR rfl rfl (Yld.neq hS rfl rfl) (by decide) ?_; clear hS; intro aa hS
              replace hS := hS.sayB (t := 192) false rfl (by exact decide_eq_false (by omega))
              refine sA hS hR (Yld.pickF hS rfl rfl) (by decide) ?_; clear hS; intro aa hS
              refine wpList_nil ?_
              refine hK492 _ _ ?_
              refine condF hS rfl ?_
              refine wp_skip ?_
              refine hK457 _ _ ?_
              refine wp_region_lit ?_
              refine sA hS hR ((by first | exact Yld.add64 hS rfl rfl (by omega) | exact Yld.add hS rfl rfl)) (by decide) ?_; clear hS; intro aa hS
              refine sA hS hR (Yld.move hS rfl) (by decide) ?_; clear hS; intro aa hS
              refine wpList_nil ?_
              
              refine ⟨(j + 1, A2, lv2, gn2, (_, _), (_, _)), ?_, ?_, hS.le (Le.cons rfl (Le.cons rfl (Le.cons rfl (Le.nilapp (Le.cons rfl (Le.cons rfl (Le.cons rfl (Le.cons rfl (Le.nil _))))))))), hR.sub (Ex.take (by repeat (first | with_reducible exact Pk.here | with_reducible apply Pk.there)) (Ex.take (by repeat (first | with_reducible exact Pk.here | with_reducible apply Pk.there)) (Ex.take (by repeat (first | with_reducible exact Pk.here | with_reducible apply Pk.there)) (Ex.nilapp (by repeat (first | with_reducible exact Ex.refl | (with_reducible apply Ex.take; · repeat (first | with_reducible exact Pk.here | with_reducible apply Pk.there)) | with_reducible apply Ex.drop))))))⟩
              · dsimp only; exact ⟨by omega, hL2, hG2, hgl2⟩
              · dsimp only; omega
      · intro hg hS
        obtain ⟨hfr, htp⟩ := top_no hg
        rw [htp] at hS hR; dsimp only at hS hR
        rw [Ar.take_nil hfr] at hR
        have hfrl : A.free.length = 0 := by rw [hfr]; rfl
        have hL2 := hLv
        have hG2 := hGn.mono (show j ≤ j + 1 by omega)
        obtain ⟨A2, hA2⟩ : ∃ x, A = x := ⟨_, rfl⟩
        obtain ⟨lv2, hl2⟩ : ∃ x, live = x := ⟨_, rfl⟩
        obtain ⟨gn2, hg2⟩ : ∃ x, gone = x := ⟨_, rfl⟩
        have hgl2 : gn2.length ≤ j + 1 := by rw [← hg2]; (try simp only [List.length_append, List.length_singleton]); omega
        rw [hA2] at hR hL2 hG2
        rw [hl2] at hR hS hL2
        rw [hg2] at hR hS hG2
        have hcnt := hL2.count
        have hall2 := hL2.all
        have hfl2 : A2.frees.length = A2.free.length := List.length_map _
        have hfr2 : A2.free.length = 0 := by rw [← hA2]; exact hfrl
        refine sA hS hR (Yld.move hS rfl) (by decide) ?_; clear hS; intro aa hS
        refine sA hS hR (Yld.len hS rfl Try.underlying27) (by decide) ?_; clear hS; intro aa hS
        refine sA hS hR (Yld.move hS rfl) (by decide) ?_; clear hS; intro aa hS
        refine sA hS hR (Yld.lss hS rfl rfl) (by decide) ?_; clear hS; intro aa hS
        replace hS := hS.sayB (t := 67) false rfl (by exact decide_eq_false (by omega))
        refine sA hS hR (Yld.neqB hS rfl rfl Try.underlying4) (by decide) ?_; clear hS; intro aa hS
        replace hS := hS.sayB (t := 68) false rfl (by rfl)
        refine sA hS hR (Yld.move hS rfl) (by decide) ?_; clear hS; intro aa hS
        refine sAg hS hR rfl rfl (Yld.move hS rfl) (by decide) ?_; clear hS; intro aa hS
        refine sAg hS hR rfl rfl (Yld.neq hS rfl rfl) (by decide) ?_; clear hS; intro aa hS
        replace hS := hS.sayB (t := 71) true rfl (by simp)
        refine sAg hS hR rfl rfl (Yld.move hS rfl) (by decide) ?_; clear hS; intro aa hS
        refine sAg hS hR rfl rfl (Yld.move hS rfl) (by decide) ?_; clear hS; intro aa hS
        refine sAg hS hR rfl rfl (Yld.neq hS rfl rfl) (by decide) ?_; clear hS; intro aa hS
        replace hS := hS.sayB (t := 74) false rfl (by simp)
        refine sAg hS hR rfl rfl (Yld.pickT hS rfl rfl) (by decide) ?_; clear hS; intro aa hS
        refine sA hS hR (Yld.pickF hS rfl rfl) (by decide) ?_; clear hS; intro aa hS
        refine wpList_nil ?_
        refine hK463 _ _ ?_
        refine condF hS rfl ?_
        refine wp_skip ?_
        refine hK462 _ _ ?_
        refine wp_seq_k ?_; intro K493 hK493
        refine wp_region_lit ?_
        refine sA hS hR (Yld.move hS rfl) (by decide) ?_; clear hS; intro aa hS
        refine sA hS hR (Yld.eql hS rfl rfl) (by decide) ?_; clear hS; intro aa hS
        replace hS := hS.sayB (t := 78) false rfl (by simp)
        refine wpList_nil ?_
        refine hK493 _ _ ?_
        refine condF hS rfl ?_
        refine wp_skip ?_
        refine hK459 _ _ ?_
        refine wp_seq_k ?_; intro K494 hK494
        refine wp_region_lit ?_
        refine sA hS hR (Yld.move hS rfl) (by decide) ?_; clear hS; intro aa hS
        refine sB (Bmake (zc := [.bool false]) hS hR rfl rfl Try.underlying42 info4 rfl (by rfl) (by rfl) (by decide) (by omega) (by show ((1 : Nat) : Int) * _ ≤ _; omega) (by omega) (by decide) ?_); clear hS hR; intro aa ww bb114 hS hR
        replace hR := hR.pk (r := blk bb114 _ _) (by repeat (first | with_reducible exact Pk.here | with_reducible apply Pk.there))
        replace hR := Sep.toRecs (m := m) (sz := 1) (enc := eb) (List.replicate m false) hR (by rw [Int.toNat_natCast]; exact zeros_flat (zc := [.bool false]) false m rfl) (by intro _; rfl) (by simp)
        replace hS := hS.say (t := 114) (.slice (some ⟨bb114, 0, none⟩) m m) rfl (by rw [Int.toNat_natCast])
        refine sA hS hR (Yld.assign hS rfl) (by decide) ?_; clear hS; intro aa hS
        refine wpList_nil ?_
        refine hK494 _ _ ?_
        refine wp_seq_k ?_; intro K495 hK495
        refine wp_seq_k ?_; intro K496 hK496
        refine wp_region_lit ?_
        refine sA hS hR (Yld.move hS rfl) (by decide) ?_; clear hS; intro aa hS
        refine sA hS hR (Yld.len hS rfl Try.underlying27) (by decide) ?_; clear hS; intro aa hS
        refine sA hS hR (Yld.move hS rfl) (by decide) ?_; clear hS; intro aa hS
        refine wpList_nil ?_
        refine hK496 _ _ ?_
        refine wp_block ?_
        replace hR := hR.pk (r := sls (some ⟨bb114, 0, none⟩) m m 4 1 ((List.replicate m false).flatMap eb)) (by repeat (first | with_reducible exact Pk.here | with_reducible apply Pk.there))
        refine loopI (X := Nat × List Bool) [(5, _), (6, _), (8, _), (9, _), (11, _), (12, _), (13, _), (15, _), (43, _), (44, _), (45, _), (46, _), (47, _), (48, _), (49, _), (50, _), (51, _), (52, _), (53, _), (54, _), (55, _), (56, _), (57, _), (58, _), (59, _), (60, _), (61, _), (62, _), (63, _), (64, _), (65, _), (66, _), (67, _), (68, _), (69, _), (70, _), (71, _), (72, _), (73, _), (74, _), (75, _), (76, _), (77, _), (78, _), (113, _), (114, _), (115, _), (116, _)] (fun x => [(117, .int .i64 (x.1 : Int))]) (fun x => [sls (some ⟨bb114, 0, none⟩) m m 4 1 (x.2.flatMap eb)]) _ (fun x => x.1 ≤ lv2.length ∧ Seen x.2 m (P1 lv2 x.1)) (fun x => lv2.length - x.1) (0, List.replicate m false) ⟨Nat.zero_le _, (Seen.none m).mono (fun i _ => by simp [P1])⟩ (hS.le (Le.cons rfl (Le.nilapp (Le.cons rfl (Le.cons rfl (Le.cons rfl (Le.cons rfl (Le.cons rfl (Le.cons rfl (Le.cons rfl (Le.cons rfl (Le.cons rfl (Le.cons rfl (Le.cons rfl (Le.cons rfl (Le.cons rfl (Le.cons rfl (Le.cons rfl (Le.cons rfl (Le.cons rfl (Le.cons rfl (Le.cons rfl (Le.cons rfl (Le.cons rfl (Le.cons rfl (Le.cons rfl (Le.cons rfl (Le.cons rfl (Le.cons rfl (Le.cons rfl (Le.cons rfl (Le.cons rfl (Le.cons rfl (Le.cons rfl (Le.cons rfl (Le.cons rfl (Le.cons rfl (Le.cons rfl (Le.cons rfl (Le.cons rfl (Le.cons rfl (Le.cons rfl (Le.cons rfl (Le.cons rfl (Le.cons rfl (Le.cons rfl (Le.cons rfl (Le.cons rfl (Le.cons rfl (Le.cons rfl (Le.cons rfl (Le.nil _)))))))))))))))))))))))))))))))))))))))))))))))))))) hR ?_
        clear hS hR; rintro ⟨j2, sn⟩ aa ww hI hS hR; dsimp only [List.cons_append, List.nil_append] at hI hS hR
        have hsl := hI.2.1
        refine wp_seq_k ?_; intro K498 hK498
        refine wp_region_lit ?_
        refine sA hS hR (Yld.lss hS rfl rfl) (by decide) ?_; clear hS; intro aa hS
        refine wpList_nil ?_
        refine hK498 _ _ ?_
        refine wp_seq_k ?_; intro K499 hK499
        refine hS.splitB (t := 118) rfl ?_ ?_ <;> clear hS
        · intro hg hS
          obtain ⟨k, hk, hkn, hkl2, hno, hset, hat⟩ := seen1 hL2 (show j2 < lv2.length by omega) hI.2
          refine condT hS rfl ?_
          refine wp_skip ?_
          refine hK499 _ _ ?_
          refine wp_seq_k ?_; intro K500 hK500
          refine wp_block ?_
          refine wp_seq_k ?_; intro K501 hK501
          refine wp_region_lit ?_
          refine sA hS hR ((by first | exact Yld.indexL (sz := 2) _ hS rfl rfl Try.underlying27 info29 (by repeat (first | with_reducible exact Pk.here | with_reducible apply Pk.there)) rfl rfl (by omega) | exact Yld.indexB (sz := 2) _ hS rfl rfl Try.underlying27 info29 rfl rfl (by omega) | exact Yld.indexSlice hS rfl rfl Try.underlying27 info29 (by omega) (by omega))) (by decide) ?_; clear hS; intro aa hS
          refine sA hS hR (Yld.loadAgg hS rfl Try.underlying29 rfl info29 (by first | exact Rds.cons (Rd.blk (by repeat (first | with_reducible exact Pk.here | with_reducible apply Pk.there)) (by rfl)) (Rds.cons (Rd.blk (by repeat (first | with_reducible exact Pk.here | with_reducible apply Pk.there)) (by rfl)) (Rds.nil)) | exact Rds.rec (by repeat (first | with_reducible exact Pk.here | with_reducible apply Pk.there)) (by intro _; rfl) (by omega) | exact Rds.flat1 (by repeat (first | with_reducible exact Pk.here | with_reducible apply Pk.there)) (by intro _; rfl) (by omega)) (by rfl)) (by decide) ?_; clear hS; intro aa hS
          refine sB (Balloc hS hR info29 (by rfl) (by rfl) (by decide) ?_); clear hS hR; intro aa ww bb17 hS hR
          refine sB (Bstore hS hR rfl rfl (by rfl) info29 (by rfl) (by repeat (first | with_reducible exact Pk.here | with_reducible apply Pk.there)) (by rfl) (Nat.le_of_ble_eq_true rfl) ?_); clear hR; intro ww hR
          refine wpList_nil ?_
          refine hK501 _ _ ?_
          refine wp_seq_k ?_; intro K502 hK502
          refine wp_seq_k ?_; intro K503 hK503
          refine wp_region_lit ?_
          refine sA hS hR (Yld.fieldAddr hS rfl 0 Try.underlying29 rfl rfl info3 (by decide)) (by decide) ?_; clear hS; intro aa hS
          refine sA hS hR (Yld.load1 hS rfl Try.underlying3 rfl (by first | exact Rd.blk (by repeat (first | with_reducible exact Pk.here | with_reducible apply Pk.there)) (by rfl) | exact Rd.rec (by repeat (first | with_reducible exact Pk.here | with_reducible apply Pk.there)) (by intro _; rfl) (by omega) rfl | exact Rd.rec0 (by repeat (first | with_reducible exact Pk.here | with_reducible apply Pk.there)) (by intro _; rfl) (by omega) rfl | exact Rd.flatJ (by repeat (first | with_reducible exact Pk.here | with_reducible apply Pk.there)) (by intro _; rfl) (by omega) rfl | exact Rd.flat0 (by repeat (first | with_reducible exact Pk.here | with_reducible apply Pk.there)) (by intro _; rfl) (by omega) rfl)) (by decide) ?_; clear hS; intro aa hS
          refine sA hS hR (Yld.lss hS rfl rfl) (by decide) ?_; clear hS; intro aa hS
          replace hS := hS.sayB (t := 123) false rfl (by exact decide_eq_false (by omega))
          refine sA hS hR (Yld.move hS rfl) (by decide) ?_; clear hS; intro aa hS
          refine sAg hS hR rfl rfl (Yld.fieldAddr hS rfl 0 Try.underlying29 rfl rfl info3 (by decide)) (by decide) ?_; clear hS; intro aa hS
          refine sAg hS hR rfl rfl (Yld.load1 hS rfl Try.underlying3 rfl (by first | exact Rd.blk (by repeat (first | with_reducible exact Pk.here | with_reducible apply Pk.there)) (by rfl) | exact Rd.rec (by repeat (first | with_reducible exact Pk.here | with_reducible apply Pk.there)) (by intro _; rfl) (by omega) rfl | exact Rd.rec0 (by repeat (first | with_reducible exact Pk.here | with_reducible apply Pk.there)) (by intro _; rfl) (by omega) rfl | exact Rd.flatJ (by repeat (first | with_reducible exact Pk.here | with_reducible apply Pk.there)) (by intro _; rfl) (by omega) rfl | exact Rd.flat0 (by repeat (first | with_reducible exact Pk.here | with_reducible apply Pk.there)) (by intro _; rfl) (by omega) rfl)) (by decide) ?_; clear hS; intro aa hS
          refine sAg hS hR rfl rfl (Yld.move hS rfl) (by decide) ?_; clear hS; intro aa hS
          refine sAg hS hR rfl rfl (Yld.geq hS rfl rfl) (by decide) ?_; clear hS; intro aa hS
          replace hS := hS.sayB (t := 128) false rfl (by exact decide_eq_false (by omega))
          refine sA hS hR (Yld.pickF hS rfl rfl) (by decide) ?_; clear hS; intro aa hS
          refine sA hS hR (Yld.move hS rfl) (by decide) ?_; clear hS; intro aa hS
          refine sAg hS hR rfl rfl (Yld.move hS rfl) (by decide) ?_; clear hS; intro aa hS
          refine sAg hS hR rfl rfl (Yld.fieldAddr hS rfl 0 Try.underlying29 rfl rfl info3 (by decide)) (by decide) ?_; clear hS; intro aa hS
          refine sAg hS hR rfl rfl (Yld.load1 hS rfl Try.underlying3 rfl (by first | exact Rd.blk (by repeat (first | with_reducible exact Pk.here | with_reducible apply Pk.there)) (by rfl) | exact Rd.rec (by repeat (first | with_reducible exact Pk.here | with_reducible apply Pk.there)) (by intro _; rfl) (by omega) rfl | exact Rd.rec0 (by repeat (first | with_reducible exact Pk.here | with_reducible apply Pk.there)) (by intro _; rfl) (by omega) rfl | exact Rd.flatJ (by repeat (first | with_reducible exact Pk.here | with_reducible apply Pk.there)) (by intro _; rfl) (by omega) rfl | exact Rd.flat0 (by repeat (first | with_reducible exact Pk.here | with_reducible apply Pk.there)) (by intro _; rfl) (by omega) rfl)) (by decide) ?_; clear hS; intro aa hS
          refine sAg hS hR rfl rfl ((by first | exact Yld.indexL (sz := 1) (k) hS rfl rfl Try.underlying42 info4 (by repeat (first | with_reducible exact Pk.here | with_reducible apply Pk.there)) rfl (by first | rfl | omega) (by omega) | exact Yld.indexB (sz := 1) (k) hS rfl rfl Try.underlying42 info4 rfl (by first | rfl | omega) (by omega))) (by decide) ?_; clear hS; intro aa hS
          refine sAg hS hR rfl rfl (Yld.load1 hS rfl Try.underlying4 rfl (by first | exact Rd.blk (by repeat (first | with_reducible exact Pk.here | with_reducible apply Pk.there)) (by rfl) | exact Rd.rec (by repeat (first | with_reducible exact Pk.here | with_reducible apply Pk.there)) (by intro _; rfl) (by omega) rfl | exact Rd.rec0 (by repeat (first | with_reducible exact Pk.here | with_reducible apply Pk.there)) (by intro _; rfl) (by omega) rfl | exact Rd.flatJ (by repeat (first | with_reducible exact Pk.here | with_reducible apply Pk.there)) (by intro _; rfl) (by omega) rfl | exact Rd.flat0 (by repeat (first | with_reducible exact Pk.here | with_reducible apply Pk.there)) (by intro _; rfl) (by omega) rfl)) (by decide) ?_; clear hS; intro aa hS
          replace hS := hS.sayB (t := 135) false rfl (by exact hno _)
          refine sA hS hR (Yld.pickF hS rfl rfl) (by decide) ?_; clear hS; intro aa hS
          refine sA hS hR (Yld.move hS rfl) (by decide) ?_; clear hS; intro aa hS
          refine sAg hS hR rfl rfl (Yld.move hS rfl) (by decide) ?_; clear hS; intro aa hS
          refine sAg hS hR rfl rfl (Yld.loadAgg hS rfl Try.underlying29 rfl info29 (by first | exact Rds.cons (Rd.blk (by repeat (first | with_reducible exact Pk.here | with_reducible apply Pk.there)) (by rfl)) (Rds.cons (Rd.blk (by repeat (first | with_reducible exact Pk.here | with_reducible apply Pk.there)) (by rfl)) (Rds.nil)) | exact Rds.rec (by repeat (first | with_reducible exact Pk.here | with_reducible apply Pk.there)) (by intro _; rfl) (by omega) | exact Rds.flat1 (by repeat (first | with_reducible exact Pk.here | with_reducible apply Pk.there)) (by intro _; rfl) (by omega)) (by rfl)) (by decide) ?_; clear hS; intro aa hS
          refine sBg hS rfl rfl (Bcall hS rfl Try.call13 (Live_okA (hR.pk (r := arena 57 60 _ _) (by repeat (first | with_reducible exact Pk.here | with_reducible apply Pk.there)))) (by decide) ?_); clear hS; intro aa ww vv hS hp
          clear hR
          obtain ⟨rfl, hR⟩ := hp
          replace hS := hS.sayB (t := 140) true rfl (by exact decide_eq_true hat)
          refine sAg hS hR rfl rfl (Yld.not hS rfl) (by decide) ?_; clear hS; intro aa hS
          refine sA hS hR (Yld.pickF hS rfl rfl) (by decide) ?_; clear hS; intro aa hS
          refine wpList_nil ?_
          refine hK503 _ _ ?_
          refine condF hS rfl ?_
          refine wp_skip ?_
          refine hK502 _ _ ?_
          refine wp_region_lit ?_
          refine sA hS hR (Yld.move hS rfl) (by decide) ?_; clear hS; intro aa hS
          refine sA hS hR (Yld.fieldAddr hS rfl 0 Try.underlying29 rfl rfl info3 (by decide)) (by decide) ?_; clear hS; intro aa hS
          refine sA hS hR (Yld.load1 hS rfl Try.underlying3 rfl (by first | exact Rd.blk (by repeat (first | with_reducible exact Pk.here | with_reducible apply Pk.there)) (by rfl) | exact Rd.rec (by repeat (first | with_reducible exact Pk.here | with_reducible apply Pk.there)) (by intro _; rfl) (by omega) rfl | exact Rd.rec0 (by repeat (first | with_reducible exact Pk.here | with_reducible apply Pk.there)) (by intro _; rfl) (by omega) rfl | exact Rd.flatJ (by repeat (first | with_reducible exact Pk.here | with_reducible apply Pk.there)) (by intro _; rfl) (by omega) rfl | exact Rd.flat0 (by repeat (first | with_reducible exact Pk.here | with_reducible apply Pk.there)) (by intro _; rfl) (by omega) rfl)) (by decide) ?_; clear hS; intro aa hS
          refine sA hS hR ((by first | exact Yld.indexL (sz := 1) (k) hS rfl rfl Try.underlying42 info4 (by repeat (first | with_reducible exact Pk.here | with_reducible apply Pk.there)) rfl (by first | rfl | omega) (by omega) | exact Yld.indexB (sz := 1) (k) hS rfl rfl Try.underlying42 info4 rfl (by first | rfl | omega) (by omega))) (by decide) ?_; clear hS; intro aa hS
          refine sB (BstoreR0 (true) hS hR rfl rfl (by rfl) info4 (by rfl) (by repeat (first | with_reducible exact Pk.here | with_reducible apply Pk.there)) (by rfl) (by intro _; rfl) (by omega) (Nat.le_of_ble_eq_true rfl) (Nat.le_of_ble_eq_true rfl) (by rfl) ?_); clear hR; intro ww hR
          refine wpList_nil ?_
          refine hK500 _ _ ?_
          refine wp_region_lit ?_
          refine sA hS hR ((by first | exact Yld.add64 hS rfl rfl (by omega) | exact Yld.add hS rfl rfl)) (by decide) ?_; clear hS; intro aa hS
          refine sA hS hR (Yld.move hS rfl) (by decide) ?_; clear hS; intro aa hS
          refine wpList_nil ?_
          
          refine ⟨(j2 + 1, _), ?_, ?_, hS.le (Le.cons rfl (Le.nilapp (Le.cons rfl (Le.cons rfl (Le.cons rfl (Le.cons rfl (Le.cons rfl (Le.cons rfl (Le.cons rfl (Le.cons rfl (Le.cons rfl (Le.cons rfl (Le.cons rfl (Le.cons rfl (Le.cons rfl (Le.cons rfl (Le.cons rfl (Le.cons rfl (Le.cons rfl (Le.cons rfl (Le.cons rfl (Le.cons rfl (Le.cons rfl (Le.cons rfl (Le.cons rfl (Le.cons rfl (Le.cons rfl (Le.cons rfl (Le.cons rfl (Le.cons rfl (Le.cons rfl (Le.cons rfl (Le.cons rfl (Le.cons rfl (Le.cons rfl (Le.cons rfl (Le.cons rfl (Le.cons rfl (Le.cons rfl (Le.cons rfl (Le.cons rfl (Le.cons rfl (Le.cons rfl (Le.cons rfl (Le.cons rfl (Le.cons rfl (Le.cons rfl (Le.cons rfl (Le.cons rfl (Le.cons rfl (Le.nil _))))))))))))))))))))))))))))))))))))))))))))))))))), hR.sub (Ex.take (by repeat (first | with_reducible exact Pk.here | with_reducible apply Pk.there)) (Ex.nilapp (by repeat (first | with_reducible exact Ex.refl | (with_reducible apply Ex.take; · repeat (first | with_reducible exact Pk.here | with_reducible apply Pk.there)) | with_reducible apply Ex.drop))))⟩
          · dsimp only; exact ⟨by omega, hset⟩
          · dsimp only; omega
        · intro hg hS
          have hSn : Seen sn m (P2 lv2 A2.free 0) := by
            have h9 := hI.2
            rw [show j2 = lv2.length by omega] at h9
            exact seen1_all h9
          refine condF hS rfl ?_
          refine wp_exit ?_
          refine hK495 _ _ ?_
          refine wp_seq_k ?_; intro K504 hK504
          refine wp_seq_k ?_; intro K505 hK505
          refine wp_region_lit ?_
          refine sA hS hR (Yld.move hS rfl) (by decide) ?_; clear hS; intro aa hS
          refine sB (Bcall hS rfl Try.call14 (Free_okA (hR.pk (r := arena 57 60 _ _) (by repeat (first | with_reducible exact Pk.here | with_reducible apply Pk.there)))) (by decide) ?_); clear hS; intro aa ww vv hS hp
          clear hR
          obtain ⟨rf, cf, rfl, hR⟩ := hp
          rw [← hfl2] at hR hS
          refine sA hS hR (Yld.len hS rfl Try.underlying36) (by decide) ?_; clear hS; intro aa hS
          refine sA hS hR (Yld.move hS rfl) (by decide) ?_; clear hS; intro aa hS
          refine wpList_nil ?_
          refine hK505 _ _ ?_
          refine wp_block ?_
          replace hR := hR.pk (r := sls (some ⟨bb114, 0, none⟩) m m 4 1 (sn.flatMap eb)) (by repeat (first | with_reducible exact Pk.here | with_reducible apply Pk.there))
          refine loopI (X := Nat × List Bool) [(5, _), (6, _), (8, _), (9, _), (11, _), (12, _), (13, _), (15, _), (43, _), (44, _), (45, _), (46, _), (47, _), (48, _), (49, _), (50, _), (51, _), (52, _), (53, _), (54, _), (55, _), (56, _), (57, _), (58, _), (59, _), (60, _), (61, _), (62, _), (63, _), (64, _), (65, _), (66, _), (67, _), (68, _), (69, _), (70, _), (71, _), (72, _), (73, _), (74, _), (75, _), (76, _), (77, _), (78, _), (113, _), (114, _), (115, _), (116, _), (117, _), (118, _), (148, _), (149, _), (150, _)] (fun x => [(151, .int .i64 (x.1 : Int))]) (fun x => [sls (some ⟨bb114, 0, none⟩) m m 4 1 (x.2.flatMap eb)]) _ (fun x => x.1 ≤ A2.free.length ∧ Seen x.2 m (P2 lv2 A2.free x.1)) (fun x => A2.free.length - x.1) (0, sn) ⟨Nat.zero_le _, hSn⟩ (hS.le (Le.cons rfl (Le.nilapp (Le.cons rfl (Le.cons rfl (Le.cons rfl (Le.cons rfl (Le.cons rfl (Le.cons rfl (Le.cons rfl (Le.cons rfl (Le.cons rfl (Le.cons rfl (Le.cons rfl (Le.cons rfl (Le.cons rfl (Le.cons rfl (Le.cons rfl (Le.cons rfl (Le.cons rfl (Le.cons rfl (Le.cons rfl (Le.cons rfl (Le.cons rfl (Le.cons rfl (Le.cons rfl (Le.cons rfl (Le.cons rfl (Le.cons rfl (Le.cons rfl (Le.cons rfl (Le.cons rfl (Le.cons rfl (Le.cons rfl (Le.cons rfl (Le.cons rfl (Le.cons rfl (Le.cons rfl (Le.cons rfl (Le.cons rfl (Le.cons rfl (Le.cons rfl (Le.cons rfl (Le.cons rfl (Le.cons rfl (Le.cons rfl (Le.cons rfl (Le.cons rfl (Le.cons rfl (Le.cons rfl (Le.cons rfl (Le.cons rfl (Le.cons rfl (Le.cons rfl (Le.cons rfl (Le.cons rfl (Le.nil _))))))))))))))))))))))))))))))))))))))))))))))))))))))))) hR ?_
          clear hS hR; rintro ⟨j4, sn4⟩ aa ww hI hS hR; dsimp only [List.cons_append, List.nil_append] at hI hS hR
          have hsl4 := hI.2.1
          have hI4 := hI
          refine wp_seq_k ?_; intro K507 hK507
          refine wp_region_lit ?_
          refine sA hS hR (Yld.lss hS rfl rfl) (by decide) ?_; clear hS; intro aa hS
          refine wpList_nil ?_
          refine hK507 _ _ ?_
          refine wp_seq_k ?_; intro K508 hK508
          refine hS.splitB (t := 152) rfl ?_ ?_ <;> clear hS
          · intro hg hS
            obtain ⟨hk4, hno4, hset4⟩ := seen2 hL2 (show j4 < A2.free.length by omega) hI.2
            have hsl := hI.2.1
            obtain ⟨k4, hk4e⟩ : ∃ k : Nat, A2.free[j4]'(by omega) = k := ⟨_, rfl⟩
            rw [hk4e] at hk4 hset4
            replace hno4 : ∀ h : k4 < sn4.length, sn4[k4] = false := by subst hk4e; exact hno4
            have hfj : A2.frees[j4]'(by omega) = (k4 : Int) := by simp [Ar.frees, hk4e]
            refine condT hS rfl ?_
            refine wp_skip ?_
            refine hK508 _ _ ?_
            refine wp_seq_k ?_; intro K509 hK509
            refine wp_block ?_
            refine wp_seq_k ?_; intro K510 hK510
            refine wp_region_lit ?_
            refine sA hS hR ((by first | exact Yld.indexL (sz := 1) _ hS rfl rfl Try.underlying36 info3 (by repeat (first | with_reducible exact Pk.here | with_reducible apply Pk.there)) rfl rfl (by omega) | exact Yld.indexB (sz := 1) _ hS rfl rfl Try.underlying36 info3 rfl rfl (by omega) | exact Yld.indexSlice hS rfl rfl Try.underlying36 info3 (by omega) (by omega))) (by decide) ?_; clear hS; intro aa hS
            refine sA hS hR (Yld.load1 hS rfl Try.underlying3 rfl (by first | exact Rd.blk (by repeat (first | with_reducible exact Pk.here | with_reducible apply Pk.there)) (by rfl) | exact Rd.rec (by repeat (first | with_reducible exact Pk.here | with_reducible apply Pk.there)) (by intro _; rfl) (by omega) rfl | exact Rd.rec0 (by repeat (first | with_reducible exact Pk.here | with_reducible apply Pk.there)) (by intro _; rfl) (by omega) rfl | exact Rd.flatJ (by repeat (first | with_reducible exact Pk.here | with_reducible apply Pk.there)) (by intro _; rfl) (by omega) rfl | exact Rd.flat0 (by repeat (first | with_reducible exact Pk.here | with_reducible apply Pk.there)) (by intro _; rfl) (by omega) rfl)) (by decide) ?_; clear hS; intro aa hS
            replace hS := hS.say (t := 154) (.int .i64 (k4 : Int)) rfl (by rw [hfj])
            refine sA hS hR (Yld.assign hS rfl) (by decide) ?_; clear hS; intro aa hS
            refine wpList_nil ?_
            refine hK510 _ _ ?_
            refine wp_seq_k ?_; intro K511 hK511
            refine wp_seq_k ?_; intro K512 hK512
            refine wp_region_lit ?_
            refine sA hS hR (Yld.move hS rfl) (by decide) ?_; clear hS; intro aa hS
            refine sA hS hR (Yld.lss hS rfl rfl) (by decide) ?_; clear hS; intro aa hS
            replace hS := hS.sayB (t := 156) false rfl (by exact decide_eq_false (by omega))
            refine sA hS hR (Yld.move hS rfl) (by decide) ?_; clear hS; intro aa hS
            refine sAg hS hR rfl rfl (Yld.move hS rfl) (by decide) ?_; clear hS; intro aa hS
            refine sAg hS hR rfl rfl (Yld.move hS rfl) (by decide) ?_; clear hS; intro aa hS
            refine sAg hS hR rfl rfl (Yld.geq hS rfl rfl) (by decide) ?_; clear hS; intro aa hS
            replace hS := hS.sayB (t := 160) false rfl (by exact decide_eq_false (by omega))
            refine sA hS hR (Yld.pickF hS rfl rfl) (by decide) ?_; clear hS; intro aa hS
            refine sA hS hR (Yld.move hS rfl) (by decide) ?_; clear hS; intro aa hS
            refine sAg hS hR rfl rfl (Yld.move hS rfl) (by decide) ?_; clear hS; intro aa hS
            refine sAg hS hR rfl rfl (Yld.move hS rfl) (by decide) ?_; clear hS; intro aa hS
            refine sAg hS hR rfl rfl ((by first | exact Yld.indexL (sz := 1) (k4) hS rfl rfl Try.underlying42 info4 (by repeat (first | with_reducible exact Pk.here | with_reducible apply Pk.there)) rfl (by first | rfl | omega) (by omega) | exact Yld.indexB (sz := 1) (k4) hS rfl rfl Try.underlying42 info4 rfl (by first | rfl | omega) (by omega))) (by decide) ?_; clear hS; intro aa hS
            refine sAg hS hR rfl rfl (Yld.load1 hS rfl Try.underlying4 rfl (by first | exact Rd.blk (by repeat (first | with_reducible exact Pk.here | with_reducible apply Pk.there)) (by rfl) | exact Rd.rec (by repeat (first | with_reducible exact Pk.here | with_reducible apply Pk.there)) (by intro _; rfl) (by omega) rfl | exact Rd.rec0 (by repeat (first | with_reducible exact Pk.here | with_reducible apply Pk.there)) (by intro _; rfl) (by omega) rfl | exact Rd.flatJ (by repeat (first | with_reducible exact Pk.here | with_reducible apply Pk.there)) (by intro _; rfl) (by omega) rfl | exact Rd.flat0 (by repeat (first | with_reducible exact Pk.here | with_reducible apply Pk.there)) (by intro _; rfl) (by omega) rfl)) (by decide) ?_; clear hS; intro aa hS
            replace hS := hS.sayB (t := 166) false rfl (by exact hno4 _)
            refine sA hS hR (Yld.pickF hS rfl rfl) (by decide) ?_; clear hS; intro aa hS
            refine wpList_nil ?_
            refine hK512 _ _ ?_
            refine condF hS rfl ?_
            refine wp_skip ?_
            refine hK511 _ _ ?_
            refine wp_region_lit ?_
            refine sA hS hR (Yld.move hS rfl) (by decide) ?_; clear hS; intro aa hS
            refine sA hS hR (Yld.move hS rfl) (by decide) ?_; clear hS; intro aa hS
            refine sA hS hR ((by first | exact Yld.indexL (sz := 1) (k4) hS rfl rfl Try.underlying42 info4 (by repeat (first | with_reducible exact Pk.here | with_reducible apply Pk.there)) rfl (by first | rfl | omega) (by omega) | exact Yld.indexB (sz := 1) (k4) hS rfl rfl Try.underlying42 info4 rfl (by first | rfl | omega) (by omega))) (by decide) ?_; clear hS; intro aa hS
            refine sB (BstoreR0 (true) hS hR rfl rfl (by rfl) info4 (by rfl) (by repeat (first | with_reducible exact Pk.here | with_reducible apply Pk.there)) (by rfl) (by intro _; rfl) (by omega) (Nat.le_of_ble_eq_true rfl) (Nat.le_of_ble_eq_true rfl) (by rfl) ?_); clear hR; intro ww hR
            refine wpList_nil ?_
            refine hK509 _ _ ?_
            refine wp_region_lit ?_
            refine sA hS hR ((by first | exact Yld.add64 hS rfl rfl (by omega) | exact Yld.add hS rfl rfl)) (by decide) ?_; clear hS; intro aa hS
            refine sA hS hR (Yld.move hS rfl) (by decide) ?_; clear hS; intro aa hS
            refine wpList_nil ?_
            
            refine ⟨(j4 + 1, _), ?_, ?_, hS.le (Le.cons rfl (Le.nilapp (Le.cons rfl (Le.cons rfl (Le.cons rfl (Le.cons rfl (Le.cons rfl (Le.cons rfl (Le.cons rfl (Le.cons rfl (Le.cons rfl (Le.cons rfl (Le.cons rfl (Le.cons rfl (Le.cons rfl (Le.cons rfl (Le.cons rfl (Le.cons rfl (Le.cons rfl (Le.cons rfl (Le.cons rfl (Le.cons rfl (Le.cons rfl (Le.cons rfl (Le.cons rfl (Le.cons rfl (Le.cons rfl (Le.cons rfl (Le.cons rfl (Le.cons rfl (Le.cons rfl (Le.cons rfl (Le.cons rfl (Le.cons rfl (Le.cons rfl (Le.cons rfl (Le.cons rfl (Le.cons rfl (Le.cons rfl (Le.cons rfl (Le.cons rfl (Le.cons rfl (Le.cons rfl (Le.cons rfl (Le.cons rfl (Le.cons rfl (Le.cons rfl (Le.cons rfl (Le.cons rfl (Le.cons rfl (Le.cons rfl (Le.cons rfl (Le.cons rfl (Le.cons rfl (Le.cons rfl (Le.nil _)))))))))))))))))))))))))))))))))))))))))))))))))))))))), hR.sub (Ex.take (by repeat (first | with_reducible exact Pk.here | with_reducible apply Pk.there)) (Ex.nilapp (by repeat (first | with_reducible exact Ex.refl | (with_reducible apply Ex.take; · repeat (first | with_reducible exact Pk.here | with_reducible apply Pk.there)) | with_reducible apply Ex.drop))))⟩
            · dsimp only; exact ⟨by omega, hset4⟩
            · dsimp only; omega
          · intro hg hS
            refine condF hS rfl ?_
            refine wp_exit ?_
            refine hK504 _ _ ?_
            refine wp_seq_k ?_; intro K513 hK513
            refine wp_seq_k ?_; intro K514 hK514
            refine wp_region_lit ?_
            refine sA hS hR (Yld.move hS rfl) (by decide) ?_; clear hS; intro aa hS
            refine sA hS hR (Yld.len hS rfl Try.underlying42) (by decide) ?_; clear hS; intro aa hS
            refine sA hS hR (Yld.move hS rfl) (by decide) ?_; clear hS; intro aa hS
            refine wpList_nil ?_
            refine hK514 _ _ ?_
            refine wp_block ?_
            replace hI4 : _ ∧ Seen sn4 m (P2 lv2 A2.free A2.free.length) := ⟨hI4.1, by rw [show A2.free.length = j4 by omega]; exact hI4.2⟩
            refine loopI (X := Nat) [(5, _), (6, _), (8, _), (9, _), (11, _), (12, _), (13, _), (15, _), (43, _), (44, _), (45, _), (46, _), (47, _), (48, _), (49, _), (50, _), (51, _), (52, _), (53, _), (54, _), (55, _), (56, _), (57, _), (58, _), (59, _), (60, _), (61, _), (62, _), (63, _), (64, _), (65, _), (66, _), (67, _), (68, _), (69, _), (70, _), (71, _), (72, _), (73, _), (74, _), (75, _), (76, _), (77, _), (78, _), (113, _), (114, _), (115, _), (116, _), (117, _), (118, _), (148, _), (149, _), (150, _), (151, _), (152, _), (172, _), (173, _)] (fun x => [(174, .int .i64 (x : Int))]) (fun x => []) _ (fun x => x ≤ m) (fun x => m - x) 0 (Nat.zero_le _) (hS.le (Le.cons rfl (Le.nilapp (Le.cons rfl (Le.cons rfl (Le.cons rfl (Le.cons rfl (Le.cons rfl (Le.cons rfl (Le.cons rfl (Le.cons rfl (Le.cons rfl (Le.cons rfl (Le.cons rfl (Le.cons rfl (Le.cons rfl (Le.cons rfl (Le.cons rfl (Le.cons rfl (Le.cons rfl (Le.cons rfl (Le.cons rfl (Le.cons rfl (Le.cons rfl (Le.cons rfl (Le.cons rfl (Le.cons rfl (Le.cons rfl (Le.cons rfl (Le.cons rfl (Le.cons rfl (Le.cons rfl (Le.cons rfl (Le.cons rfl (Le.cons rfl (Le.cons rfl (Le.cons rfl (Le.cons rfl (Le.cons rfl (Le.cons rfl (Le.cons rfl (Le.cons rfl (Le.cons rfl (Le.cons rfl (Le.cons rfl (Le.cons rfl (Le.cons rfl (Le.cons rfl (Le.cons rfl (Le.cons rfl (Le.cons rfl (Le.cons rfl (Le.cons rfl (Le.cons rfl (Le.cons rfl (Le.cons rfl (Le.cons rfl (Le.cons rfl (Le.cons rfl (Le.cons rfl (Le.nil _))))))))))))))))))))))))))))))))))))))))))))))))))))))))))))) hR ?_
            clear hS hR; rintro k6 aa ww hI hS hR; dsimp only [List.cons_append, List.nil_append] at hI hS hR
            refine wp_seq_k ?_; intro K516 hK516
            refine wp_region_lit ?_
            refine sA hS hR (Yld.lss hS rfl rfl) (by decide) ?_; clear hS; intro aa hS
            refine wpList_nil ?_
            refine hK516 _ _ ?_
            refine wp_seq_k ?_; intro K517 hK517
            refine hS.splitB (t := 175) rfl ?_ ?_ <;> clear hS
            · intro hg hS
              have hy := seen3 hL2 hI4.2 (show k6 < sn4.length by omega)
              refine condT hS rfl ?_
              refine wp_skip ?_
              refine hK517 _ _ ?_
              refine wp_seq_k ?_; intro K518 hK518
              refine wp_block ?_
              refine wp_seq_k ?_; intro K519 hK519
              refine wp_region_lit ?_
              refine sA hS hR ((by first | exact Yld.indexL (sz := 1) _ hS rfl rfl Try.underlying42 info4 (by repeat (first | with_reducible exact Pk.here | with_reducible apply Pk.there)) rfl rfl (by omega) | exact Yld.indexB (sz := 1) _ hS rfl rfl Try.underlying42 info4 rfl rfl (by omega) | exact Yld.indexSlice hS rfl rfl Try.underlying42 info4 (by omega) (by omega))) (by decide) ?_; clear hS; intro aa hS
              refine sA hS hR (Yld.load1 hS rfl Try.underlying4 rfl (by first | exact Rd.blk (by repeat (first | with_reducible exact Pk.here | with_reducible apply Pk.there)) (by rfl) | exact Rd.rec (by repeat (first | with_reducible exact Pk.here | with_reducible apply Pk.there)) (by intro _; rfl) (by omega) rfl | exact Rd.rec0 (by repeat (first | with_reducible exact Pk.here | with_reducible apply Pk.there)) (by intro _; rfl) (by omega) rfl | exact Rd.flatJ (by repeat (first | with_reducible exact Pk.here | with_reducible apply Pk.there)) (by intro _; rfl) (by omega) rfl | exact Rd.flat0 (by repeat (first | with_reducible exact Pk.here | with_reducible apply Pk.there)) (by intro _; rfl) (by omega) rfl)) (by decide) ?_; clear hS; intro aa hS
              replace hS := hS.sayB (t := 177) true rfl (by exact hy)
              refine sA hS hR (Yld.assign hS rfl) (by decide) ?_; clear hS; intro aa hS
              refine wpList_nil ?_
              refine hK519 _ _ ?_
              refine wp_seq_k ?_; intro K520 hK520
              refine wp_region_lit ?_
              refine sA hS hR (Yld.move hS rfl) (by decide) ?_; clear hS; intro aa hS
              refine sA hS hR (Yld.not hS rfl) (by decide) ?_; clear hS; intro aa hS
              refine wpList_nil ?_
              refine hK520 _ _ ?_
              refine condF hS rfl ?_
              refine wp_skip ?_
              refine hK518 _ _ ?_
              refine wp_region_lit ?_
              refine sA hS hR ((by first | exact Yld.add64 hS rfl rfl (by omega) | exact Yld.add hS rfl rfl)) (by decide) ?_; clear hS; intro aa hS
              refine sA hS hR (Yld.move hS rfl) (by decide) ?_; clear hS; intro aa hS
              refine wpList_nil ?_
              
              refine ⟨k6 + 1, ?_, ?_, hS.le (Le.cons rfl (Le.nilapp (Le.cons rfl (Le.cons rfl (Le.cons rfl (Le.cons rfl (Le.cons rfl (Le.cons rfl (Le.cons rfl (Le.cons rfl (Le.cons rfl (Le.cons rfl (Le.cons rfl (Le.cons rfl (Le.cons rfl (Le.cons rfl (Le.cons rfl (Le.cons rfl (Le.cons rfl (Le.cons rfl (Le.cons rfl (Le.cons rfl (Le.cons rfl (Le.cons rfl (Le.cons rfl (Le.cons rfl (Le.cons rfl (Le.cons rfl (Le.cons rfl (Le.cons rfl (Le.cons rfl (Le.cons rfl (Le.cons rfl (Le.cons rfl (Le.cons rfl (Le.cons rfl (Le.cons rfl (Le.cons rfl (Le.cons rfl (Le.cons rfl (Le.cons rfl (Le.cons rfl (Le.cons rfl (Le.cons rfl (Le.cons rfl (Le.cons rfl (Le.cons rfl (Le.cons rfl (Le.cons rfl (Le.cons rfl (Le.cons rfl (Le.cons rfl (Le.cons rfl (Le.cons rfl (Le.cons rfl (Le.cons rfl (Le.cons rfl (Le.cons rfl (Le.cons rfl (Le.nil _)))))))))))))))))))))))))))))))))))))))))))))))))))))))))))), hR.sub (Ex.nilapp (by repeat (first | with_reducible exact Ex.refl | (with_reducible apply Ex.take; · repeat (first | with_reducible exact Pk.here | with_reducible apply Pk.there)) | with_reducible apply Ex.drop)))⟩
              · omega
              · omega
            · intro hg hS
              refine condF hS rfl ?_
              refine wp_exit ?_
              refine hK513 _ _ ?_
              refine wp_seq_k ?_; intro K521 hK521
              refine wp_region_lit ?_
              refine sA hS hR (Yld.move hS rfl) (by decide) ?_; clear hS; intro aa hS
              refine sB (Bcall hS rfl Try.call15 (Count_okA (hR.pk (r := arena 57 60 _ _) (by repeat (first | with_reducible exact Pk.here | with_reducible apply Pk.there)))) (by decide) ?_); clear hS; intro aa ww vv hS hp
              clear hR
              obtain ⟨rfl, hR⟩ := hp
              refine sA hS hR (Yld.move hS rfl) (by decide) ?_; clear hS; intro aa hS
              refine sA hS hR (Yld.len hS rfl Try.underlying27) (by decide) ?_; clear hS; intro aa hS
              refine sA hS hR (Yld.neq hS rfl rfl) (by decide) ?_; clear hS; intro aa hS
              replace hS := hS.sayB (t := 185) false rfl (by exact decide_eq_false (by omega))
              refine sA hS hR (Yld.move hS rfl) (by decide) ?_; clear hS; intro aa hS
              refine sAg hS hR rfl rfl (Yld.move hS rfl) (by decide) ?_; clear hS; intro aa hS
              refine sBg hS rfl rfl (Bcall hS rfl Try.call17 (All_okA (hR.pk (r := arena 57 60 _ _) (by repeat (first | with_reducible exact Pk.here | with_reducible apply Pk.there)))) (by decide) ?_); clear hS; intro aa ww vv hS hp
              clear hR
              obtain ⟨ra, ca, rfl, hR⟩ := hp
              refine sAg hS hR rfl rfl (Yld.len hS rfl Try.underlying27) (by decide) ?_; clear hS; intro aa hS
              refine sAg hS hR rfl rfl (Yld.move hS rfl) (by decide) ?_; clear hS; intro aa hS
              refine sAg hS hR rfl rfl (Yld.len hS rfl Try.underlying27) (by decide) ?_; clear hS; intro aa hS
              refine sAg hS hR rfl rfl (Yld.neq hS rfl rfl) (by decide) ?_; clear hS; intro aa hS
              replace hS := hS.sayB (t := 192) false rfl (by exact decide_eq_false (by omega))
              refine sA hS hR (Yld.pickF hS rfl rfl) (by decide) ?_; clear hS; intro aa hS
              refine wpList_nil ?_
              refine hK521 _ _ ?_
              refine condF hS rfl ?_
              refine wp_skip ?_
              refine hK457 _ _ ?_
              refine wp_region_lit ?_
              refine sA hS hR ((by first | exact Yld.add64 hS rfl rfl (by omega) | exact Yld.add hS rfl rfl)) (by decide) ?_; clear hS; intro aa hS
              refine sA hS hR (Yld.move hS rfl) (by decide) ?_; clear hS; intro aa hS
              refine wpList_nil ?_
              
              refine ⟨(j + 1, A2, lv2, gn2, (_, _), (_, _)), ?_, ?_, hS.le (Le.cons rfl (Le.cons rfl (Le.cons rfl (Le.nilapp (Le.cons rfl (Le.cons rfl (Le.cons rfl (Le.cons rfl (Le.nil _))))))))), hR.sub (Ex.take (by repeat (first | with_reducible exact Pk.here | with_reducible apply Pk.there)) (Ex.take (by repeat (first | with_reducible exact Pk.here | with_reducible apply Pk.there)) (Ex.take (by repeat (first | with_reducible exact Pk.here | with_reducible apply Pk.there)) (Ex.nilapp (by repeat (first | with_reducible exact Ex.refl | (with_reducible apply Ex.take; · repeat (first | with_reducible exact Pk.here | with_reducible apply Pk.there)) | with_reducible apply Ex.drop))))))⟩
              · dsimp only; exact ⟨by omega, hL2, hG2, hgl2⟩
              · dsimp only; omega
    · intro hg hS
      refine sAg hS hR rfl rfl (Yld.move hS rfl) (by decide) ?_; clear hS; intro aa hS
      refine sAg hS hR rfl rfl (Yld.len hS rfl Try.underlying27) (by decide) ?_; clear hS; intro aa hS
      refine sAg hS hR rfl rfl (Yld.eql hS rfl rfl) (by decide) ?_; clear hS; intro aa hS
      refine sA hS hR (Yld.pickF hS rfl rfl) (by decide) ?_; clear hS; intro aa hS
      refine wpList_nil ?_
      refine hK460 _ _ ?_
      refine hS.splitB (t := 56) rfl ?_ ?_ <;> clear hS
      · intro hg hS
        refine condT hS rfl ?_
        refine wp_seq_k ?_; intro K522 hK522
        refine wp_region_lit ?_
        refine sA hS hR (Yld.move hS rfl) (by decide) ?_; clear hS; intro aa hS
        refine sB (Bcall hS rfl Try.call10 (Take_okA (hR.pk (r := arena 57 60 _ _) (by repeat (first | with_reducible exact Pk.here | with_reducible apply Pk.there)))) (by decide) ?_); clear hS; intro aa ww vv hS hp
        clear hR
        obtain ⟨rfl, hR⟩ := hp
        refine sA hS hR (Yld.move hS rfl) (by decide) ?_; clear hS; intro aa hS
        refine sA hS hR (Yld.extract hS rfl rfl) (by decide) ?_; clear hS; intro aa hS
        refine sA hS hR (Yld.extract hS rfl rfl) (by decide) ?_; clear hS; intro aa hS
        refine sB (Balloc hS hR info29 (by rfl) (by rfl) (by decide) ?_); clear hS hR; intro aa ww bb12 hS hR
        refine sB (Bstore hS hR rfl rfl (by rfl) info29 (by rfl) (by repeat (first | with_reducible exact Pk.here | with_reducible apply Pk.there)) (by rfl) (Nat.le_of_ble_eq_true rfl) ?_); clear hR; intro ww hR
        refine sA hS hR (Yld.assign hS rfl) (by decide) ?_; clear hS; intro aa hS
        refine wpList_nil ?_
        refine hK522 _ _ ?_
        refine wp_seq_k ?_; intro K523 hK523
        refine wp_seq_k ?_; intro K524 hK524
        refine wp_region_lit ?_
        refine sA hS hR (Yld.move hS rfl) (by decide) ?_; clear hS; intro aa hS
        refine sA hS hR (Yld.eql hS rfl rfl) (by decide) ?_; clear hS; intro aa hS
        refine hS.splitB (t := 63) rfl ?_ ?_ <;> clear hS
        · intro hg hS
          obtain ⟨i, fs, hfr⟩ := top_yes hg
          rw [Ar.top_of hfr] at hS hR; dsimp only at hS hR
          have hfrl : A.free.length = fs.length + 1 := by rw [hfr]; rfl
          refine sA hS hR (Yld.move hS rfl) (by decide) ?_; clear hS; intro aa hS
          refine sA hS hR (Yld.len hS rfl Try.underlying27) (by decide) ?_; clear hS; intro aa hS
          refine sA hS hR (Yld.move hS rfl) (by decide) ?_; clear hS; intro aa hS
          refine sA hS hR (Yld.lss hS rfl rfl) (by decide) ?_; clear hS; intro aa hS
          replace hS := hS.sayB (t := 67) true rfl (by exact decide_eq_true (by omega))
          refine sA hS hR (Yld.neqB hS rfl rfl Try.underlying4) (by decide) ?_; clear hS; intro aa hS
          replace hS := hS.sayB (t := 68) false rfl (by rfl)
          refine sA hS hR (Yld.move hS rfl) (by decide) ?_; clear hS; intro aa hS
          refine sAg hS hR rfl rfl (Yld.move hS rfl) (by decide) ?_; clear hS; intro aa hS
          refine sAg hS hR rfl rfl (Yld.neq hS rfl rfl) (by decide) ?_; clear hS; intro aa hS
          replace hS := hS.sayB (t := 71) false rfl (by simp)
          refine sAg hS hR rfl rfl (Yld.move hS rfl) (by decide) ?_; clear hS; intro aa hS
          refine sSkip hS rfl rfl rfl (by decide) ?_; clear hS; intro aa hS
          refine sSkip hS rfl rfl rfl (by decide) ?_; clear hS; intro aa hS
          refine sAg hS hR rfl rfl (Yld.pickF hS rfl rfl) (by decide) ?_; clear hS; intro aa hS
          refine sA hS hR (Yld.pickF hS rfl rfl) (by decide) ?_; clear hS; intro aa hS
          refine wpList_nil ?_
          refine hK524 _ _ ?_
          refine condF hS rfl ?_
          refine wp_skip ?_
          refine hK523 _ _ ?_
          refine wp_seq_k ?_; intro K525 hK525
          refine wp_region_lit ?_
          refine sA hS hR (Yld.move hS rfl) (by decide) ?_; clear hS; intro aa hS
          refine sA hS hR (Yld.eql hS rfl rfl) (by decide) ?_; clear hS; intro aa hS
          replace hS := hS.sayB (t := 78) true rfl (by simp)
          refine wpList_nil ?_
          refine hK525 _ _ ?_
          refine condT hS rfl ?_
          refine wp_region_lit ?_
          refine sA hS hR (Yld.move hS rfl) (by decide) ?_; clear hS; intro aa hS
          refine sA hS hR (Yld.loadAgg hS rfl Try.underlying29 rfl info29 (by first | exact Rds.cons (Rd.blk (by repeat (first | with_reducible exact Pk.here | with_reducible apply Pk.there)) (by rfl)) (Rds.cons (Rd.blk (by repeat (first | with_reducible exact Pk.here | with_reducible apply Pk.there)) (by rfl)) (Rds.nil)) | exact Rds.rec (by repeat (first | with_reducible exact Pk.here | with_reducible apply Pk.there)) (by intro _; rfl) (by omega) | exact Rds.flat1 (by repeat (first | with_reducible exact Pk.here | with_reducible apply Pk.there)) (by intro _; rfl) (by omega)) (by rfl)) (by decide) ?_; clear hS; intro aa hS
          refine sB (BbuildSlice hS hR rfl (bls27_1_0 _ _) (by decide) ?_); clear hS hR; intro aa ww bb81 hS hR
          refine sB (BappendR (sz := 2) hS hR rfl rfl Try.underlying27 info29 rfl rfl (by rfl) (by repeat (first | with_reducible exact Pk.here | with_reducible apply Pk.there)) (XC.one (((i : Int), A.turn[i]?.getD 0)) (by repeat (first | with_reducible exact Pk.here | with_reducible apply Pk.there)) (by rfl) rfl) (by intro _; rfl) (by show (_ + _) * 16 ≤ _; first | omega | (simp only [List.length_take, List.length_append, List.length_drop, List.length_cons, List.length_nil, List.length_map]; omega)) (by first | omega | (simp only [List.length_take, List.length_append, List.length_drop, List.length_cons, List.length_nil, List.length_map]; omega)) (by first | rfl | (simp; done) | (simp; omega)) (by decide) ?_); clear hS hR; intro aa ww r82 c82 hS hR
          have hL2 := hLv.take hfr
          have hG2 := hGn.take.mono (show j ≤ j + 1 by omega)
          obtain ⟨A2, hA2⟩ : ∃ x, A.take = x := ⟨_, rfl⟩
          obtain ⟨lv2, hl2⟩ : ∃ x, live ++ [((i : Int), A.turn[i]?.getD 0)] = x := ⟨_, rfl⟩
          obtain ⟨gn2, hg2⟩ : ∃ x, gone = x := ⟨_, rfl⟩
          have hgl2 : gn2.length ≤ j + 1 := by rw [← hg2]; (try simp only [List.length_append, List.length_singleton]); omega
          rw [hA2] at hR hL2 hG2
          rw [hl2] at hR hS hL2
          rw [hg2] at hR hS hG2
          have hcnt := hL2.count
          have hall2 := hL2.all
          have hfl2 : A2.frees.length = A2.free.length := List.length_map _
          refine sA hS hR (Yld.assign hS rfl) (by decide) ?_; clear hS; intro aa hS
          refine wpList_nil ?_
          refine hK459 _ _ ?_
          refine wp_seq_k ?_; intro K526 hK526
          refine wp_region_lit ?_
          refine sA hS hR (Yld.move hS rfl) (by decide) ?_; clear hS; intro aa hS
          refine sB (Bmake (zc := [.bool false]) hS hR rfl rfl Try.underlying42 info4 rfl (by rfl) (by rfl) (by decide) (by omega) (by show ((1 : Nat) : Int) * _ ≤ _; omega) (by omega) (by decide) ?_); clear hS hR; intro aa ww bb114 hS hR
          replace hR := hR.pk (r := blk bb114 _ _) (by repeat (first | with_reducible exact Pk.here | with_reducible apply Pk.there))
          replace hR := Sep.toRecs (m := m) (sz := 1) (enc := eb) (List.replicate m false) hR (by rw [Int.toNat_natCast]; exact zeros_flat (zc := [.bool false]) false m rfl) (by intro _; rfl) (by simp)
          replace hS := hS.say (t := 114) (.slice (some ⟨bb114, 0, none⟩) m m) rfl (by rw [Int.toNat_natCast])
          refine sA hS hR (Yld.assign hS rfl) (by decide) ?_; clear hS; intro aa hS
          refine wpList_nil ?_
          refine hK526 _ _ ?_
          refine wp_seq_k ?_; intro K527 hK527
          refine wp_seq_k ?_; intro K528 hK528
          refine wp_region_lit ?_
          refine sA hS hR (Yld.move hS rfl) (by decide) ?_; clear hS; intro aa hS
          refine sA hS hR (Yld.len hS rfl Try.underlying27) (by decide) ?_; clear hS; intro aa hS
          refine sA hS hR (Yld.move hS rfl) (by decide) ?_; clear hS; intro aa hS
          refine wpList_nil ?_
          refine hK528 _ _ ?_
          refine wp_block ?_
          replace hR := hR.pk (r := sls (some ⟨bb114, 0, none⟩) m m 4 1 ((List.replicate m false).flatMap eb)) (by repeat (first | with_reducible exact Pk.here | with_reducible apply Pk.there))
          refine loopI (X := Nat × List Bool) [(5, _), (6, _), (8, _), (9, _), (11, _), (12, _), (13, _), (15, _), (43, _), (44, _), (45, _), (46, _), (47, _), (48, _), (49, _), (50, _), (51, _), (52, _), (53, _), (54, _), (55, _), (56, _), (57, _), (58, _), (59, _), (60, _), (61, _), (62, _), (63, _), (64, _), (65, _), (66, _), (67, _), (68, _), (69, _), (70, _), (71, _), (72, _), (73, _), (74, _), (75, _), (76, _), (77, _), (78, _), (79, _), (80, _), (81, _), (82, _), (113, _), (114, _), (115, _), (116, _)] (fun x => [(117, .int .i64 (x.1 : Int))]) (fun x => [sls (some ⟨bb114, 0, none⟩) m m 4 1 (x.2.flatMap eb)]) _ (fun x => x.1 ≤ lv2.length ∧ Seen x.2 m (P1 lv2 x.1)) (fun x => lv2.length - x.1) (0, List.replicate m false) ⟨Nat.zero_le _, (Seen.none m).mono (fun i _ => by simp [P1])⟩ (hS.le (Le.cons rfl (Le.nilapp (Le.cons rfl (Le.cons rfl (Le.cons rfl (Le.cons rfl (Le.cons rfl (Le.cons rfl (Le.cons rfl (Le.cons rfl (Le.cons rfl (Le.cons rfl (Le.cons rfl (Le.cons rfl (Le.cons rfl (Le.cons rfl (Le.cons rfl (Le.cons rfl (Le.cons rfl (Le.cons rfl (Le.cons rfl (Le.cons rfl (Le.cons rfl (Le.cons rfl (Le.cons rfl (Le.cons rfl (Le.cons rfl (Le.cons rfl (Le.cons rfl (Le.cons rfl (Le.cons rfl (Le.cons rfl (Le.cons rfl (Le.cons rfl (Le.cons rfl (Le.cons rfl (Le.cons rfl (Le.cons rfl (Le.cons rfl (Le.cons rfl (Le.cons rfl (Le.cons rfl (Le.cons rfl (Le.cons rfl (Le.cons rfl (Le.cons rfl (Le.cons rfl (Le.cons rfl (Le.cons rfl (Le.cons rfl (Le.cons rfl (Le.cons rfl (Le.cons rfl (Le.cons rfl (Le.nil _)))))))))))))))))))))))))))))))))))))))))))))))))))))))) hR ?_
          clear hS hR; rintro ⟨j2, sn⟩ aa ww hI hS hR; dsimp only [List.cons_append, List.nil_append] at hI hS hR
          have hsl := hI.2.1
          refine wp_seq_k ?_; intro K530 hK530
          refine wp_region_lit ?_
          refine sA hS hR (Yld.lss hS rfl rfl) (by decide) ?_; clear hS; intro aa hS
          refine wpList_nil ?_
          refine hK530 _ _ ?_
          refine wp_seq_k ?_; intro K531 hK531
          refine hS.splitB (t := 118) rfl ?_ ?_ <;> clear hS
          · intro hg hS
            obtain ⟨k, hk, hkn, hkl2, hno, hset, hat⟩ := seen1 hL2 (show j2 < lv2.length by omega) hI.2
            refine condT hS rfl ?_
            refine wp_skip ?_
            refine hK531 _ _ ?_
            refine wp_seq_k ?_; intro K532 hK532
            refine wp_block ?_
            refine wp_seq_k ?_; intro K533 hK533
            refine wp_region_lit ?_
            refine sA hS hR ((by first | exact Yld.indexL (sz := 2) _ hS rfl rfl Try.underlying27 info29 (by repeat (first | with_reducible exact Pk.here | with_reducible apply Pk.there)) rfl rfl (by omega) | exact Yld.indexB (sz := 2) _ hS rfl rfl Try.underlying27 info29 rfl rfl (by omega) | exact Yld.indexSlice hS rfl rfl Try.underlying27 info29 (by omega) (by omega))) (by decide) ?_; clear hS; intro aa hS
            refine sA hS hR (Yld.loadAgg hS rfl Try.underlying29 rfl info29 (by first | exact Rds.cons (Rd.blk (by repeat (first | with_reducible exact Pk.here | with_reducible apply Pk.there)) (by rfl)) (Rds.cons (Rd.blk (by repeat (first | with_reducible exact Pk.here | with_reducible apply Pk.there)) (by rfl)) (Rds.nil)) | exact Rds.rec (by repeat (first | with_reducible exact Pk.here | with_reducible apply Pk.there)) (by intro _; rfl) (by omega) | exact Rds.flat1 (by repeat (first | with_reducible exact Pk.here | with_reducible apply Pk.there)) (by intro _; rfl) (by omega)) (by rfl)) (by decide) ?_; clear hS; intro aa hS
            refine sB (Balloc hS hR info29 (by rfl) (by rfl) (by decide) ?_); clear hS hR; intro aa ww bb17 hS hR
            refine sB (Bstore hS hR rfl rfl (by rfl) info29 (by rfl) (by repeat (first | with_reducible exact Pk.here | with_reducible apply Pk.there)) (by rfl) (Nat.le_of_ble_eq_true rfl) ?_); clear hR; intro ww hR
            refine wpList_nil ?_
            refine hK533 _ _ ?_
            refine wp_seq_k ?_; intro K534 hK534
            refine wp_seq_k ?_; intro K535 hK535
            refine wp_region_lit ?_
            refine sA hS hR (Yld.fieldAddr hS rfl 0 Try.underlying29 rfl rfl info3 (by decide)) (by decide) ?_; clear hS; intro aa hS
            refine sA hS hR (Yld.load1 hS rfl Try.underlying3 rfl (by first | exact Rd.blk (by repeat (first | with_reducible exact Pk.here | with_reducible apply Pk.there)) (by rfl) | exact Rd.rec (by repeat (first | with_reducible exact Pk.here | with_reducible apply Pk.there)) (by intro _; rfl) (by omega) rfl | exact Rd.rec0 (by repeat (first | with_reducible exact Pk.here | with_reducible apply Pk.there)) (by intro _; rfl) (by omega) rfl | exact Rd.flatJ (by repeat (first | with_reducible exact Pk.here | with_reducible apply Pk.there)) (by intro _; rfl) (by omega) rfl | exact Rd.flat0 (by repeat (first | with_reducible exact Pk.here | with_reducible apply Pk.there)) (by intro _; rfl) (by omega) rfl)) (by decide) ?_; clear hS; intro aa hS
            refine sA hS hR (Yld.lss hS rfl rfl) (by decide) ?_; clear hS; intro aa hS
            replace hS := hS.sayB (t := 123) false rfl (by exact decide_eq_false (by omega))
            refine sA hS hR (Yld.move hS rfl) (by decide) ?_; clear hS; intro aa hS
            refine sAg hS hR rfl rfl (Yld.fieldAddr hS rfl 0 Try.underlying29 rfl rfl info3 (by decide)) (by decide) ?_; clear hS; intro aa hS
            refine sAg hS hR rfl rfl (Yld.load1 hS rfl Try.underlying3 rfl (by first | exact Rd.blk (by repeat (first | with_reducible exact Pk.here | with_reducible apply Pk.there)) (by rfl) | exact Rd.rec (by repeat (first | with_reducible exact Pk.here | with_reducible apply Pk.there)) (by intro _; rfl) (by omega) rfl | exact Rd.rec0 (by repeat (first | with_reducible exact Pk.here | with_reducible apply Pk.there)) (by intro _; rfl) (by omega) rfl | exact Rd.flatJ (by repeat (first | with_reducible exact Pk.here | with_reducible apply Pk.there)) (by intro _; rfl) (by omega) rfl | exact Rd.flat0 (by repeat (first | with_reducible exact Pk.here | with_reducible apply Pk.there)) (by intro _; rfl) (by omega) rfl)) (by decide) ?_; clear hS; intro aa hS
            refine sAg hS hR rfl rfl (Yld.move hS rfl) (by decide) ?_; clear hS; intro aa hS
            refine sAg hS hR rfl rfl (Yld.geq hS rfl rfl) (by decide) ?_; clear hS; intro aa hS
            replace hS := hS.sayB (t := 128) false rfl (by exact decide_eq_false (by omega))
            refine sA hS hR (Yld.pickF hS rfl rfl) (by decide) ?_; clear hS; intro aa hS
            refine sA hS hR (Yld.move hS rfl) (by decide) ?_; clear hS; intro aa hS
            refine sAg hS hR rfl rfl (Yld.move hS rfl) (by decide) ?_; clear hS; intro aa hS
            refine sAg hS hR rfl rfl (Yld.fieldAddr hS rfl 0 Try.underlying29 rfl rfl info3 (by decide)) (by decide) ?_; clear hS; intro aa hS
            refine sAg hS hR rfl rfl (Yld.load1 hS rfl Try.underlying3 rfl (by first | exact Rd.blk (by repeat (first | with_reducible exact Pk.here | with_reducible apply Pk.there)) (by rfl) | exact Rd.rec (by repeat (first | with_reducible exact Pk.here | with_reducible apply Pk.there)) (by intro _; rfl) (by omega) rfl | exact Rd.rec0 (by repeat (first | with_reducible exact Pk.here | with_reducible apply Pk.there)) (by intro _; rfl) (by omega) rfl | exact Rd.flatJ (by repeat (first | with_reducible exact Pk.here | with_reducible apply Pk.there)) (by intro _; rfl) (by omega) rfl | exact Rd.flat0 (by repeat (first | with_reducible exact Pk.here | with_reducible apply Pk.there)) (by intro _; rfl) (by omega) rfl)) (by decide) ?_; clear hS; intro aa hS
            refine sAg hS hR rfl rfl ((by first | exact Yld.indexL (sz := 1) (k) hS rfl rfl Try.underlying42 info4 (by repeat (first | with_reducible exact Pk.here | with_reducible apply Pk.there)) rfl (by first | rfl | omega) (by omega) | exact Yld.indexB (sz := 1) (k) hS rfl rfl Try.underlying42 info4 rfl (by first | rfl | omega) (by omega))) (by decide) ?_; clear hS; intro aa hS
            refine sAg hS hR rfl rfl (Yld.load1 hS rfl Try.underlying4 rfl (by first | exact Rd.blk (by repeat (first | with_reducible exact Pk.here | with_reducible apply Pk.there)) (by rfl) | exact Rd.rec (by repeat (first | with_reducible exact Pk.here | with_reducible apply Pk.there)) (by intro _; rfl) (by omega) rfl | exact Rd.rec0 (by repeat (first | with_reducible exact Pk.here | with_reducible apply Pk.there)) (by intro _; rfl) (by omega) rfl | exact Rd.flatJ (by repeat (first | with_reducible exact Pk.here | with_reducible apply Pk.there)) (by intro _; rfl) (by omega) rfl | exact Rd.flat0 (by repeat (first | with_reducible exact Pk.here | with_reducible apply Pk.there)) (by intro _; rfl) (by omega) rfl)) (by decide) ?_; clear hS; intro aa hS
            replace hS := hS.sayB (t := 135) false rfl (by exact hno _)
            refine sA hS hR (Yld.pickF hS rfl rfl) (by decide) ?_; clear hS; intro aa hS
            refine sA hS hR (Yld.move hS rfl) (by decide) ?_; clear hS; intro aa hS
            refine sAg hS hR rfl rfl (Yld.move hS rfl) (by decide) ?_; clear hS; intro aa hS
            refine sAg hS hR rfl rfl (Yld.loadAgg hS rfl Try.underlying29 rfl info29 (by first | exact Rds.cons (Rd.blk (by repeat (first | with_reducible exact Pk.here | with_reducible apply Pk.there)) (by rfl)) (Rds.cons (Rd.blk (by repeat (first | with_reducible exact Pk.here | with_reducible apply Pk.there)) (by rfl)) (Rds.nil)) | exact Rds.rec (by repeat (first | with_reducible exact Pk.here | with_reducible apply Pk.there)) (by intro _; rfl) (by omega) | exact Rds.flat1 (by repeat (first | with_reducible exact Pk.here | with_reducible apply Pk.there)) (by intro _; rfl) (by omega)) (by rfl)) (by decide) ?_; clear hS; intro aa hS
            refine sBg hS rfl rfl (Bcall hS rfl Try.call13 (Live_okA (hR.pk (r := arena 57 60 _ _) (by repeat (first | with_reducible exact Pk.here | with_reducible apply Pk.there)))) (by decide) ?_); clear hS; intro aa ww vv hS hp
            clear hR
            obtain ⟨rfl, hR⟩ := hp
            replace hS := hS.sayB (t := 140) true rfl (by exact decide_eq_true hat)
            refine sAg hS hR rfl rfl (Yld.not hS rfl) (by decide) ?_; clear hS; intro aa hS
            refine sA hS hR (Yld.pickF hS rfl rfl) (by decide) ?_; clear hS; intro aa hS
            refine wpList_nil ?_
            refine hK535 _ _ ?_
            refine condF hS rfl ?_
            refine wp_skip ?_
            refine hK534 _ _ ?_
            refine wp_region_lit ?_
            refine sA hS hR (Yld.move hS rfl) (by decide) ?_; clear hS; intro aa hS
            refine sA hS hR (Yld.fieldAddr hS rfl 0 Try.underlying29 rfl rfl info3 (by decide)) (by decide) ?_; clear hS; intro aa hS
            refine sA hS hR (Yld.load1 hS rfl Try.underlying3 rfl (by first | exact Rd.blk (by repeat (first | with_reducible exact Pk.here | with_reducible apply Pk.there)) (by rfl) | exact Rd.rec (by repeat (first | with_reducible exact Pk.here | with_reducible apply Pk.there)) (by intro _; rfl) (by omega) rfl | exact Rd.rec0 (by repeat (first | with_reducible exact Pk.here | with_reducible apply Pk.there)) (by intro _; rfl) (by omega) rfl | exact Rd.flatJ (by repeat (first | with_reducible exact Pk.here | with_reducible apply Pk.there)) (by intro _; rfl) (by omega) rfl | exact Rd.flat0 (by repeat (first | with_reducible exact Pk.here | with_reducible apply Pk.there)) (by intro _; rfl) (by omega) rfl)) (by decide) ?_; clear hS; intro aa hS
            refine sA hS hR ((by first | exact Yld.indexL (sz := 1) (k) hS rfl rfl Try.underlying42 info4 (by repeat (first | with_reducible exact Pk.here | with_reducible apply Pk.there)) rfl (by first | rfl | omega) (by omega) | exact Yld.indexB (sz := 1) (k) hS rfl rfl Try.underlying42 info4 rfl (by first | rfl | omega) (by omega))) (by decide) ?_; clear hS; intro aa hS
            refine sB (BstoreR0 (true) hS hR rfl rfl (by rfl) info4 (by rfl) (by repeat (first | with_reducible exact Pk.here | with_reducible apply Pk.there)) (by rfl) (by intro _; rfl) (by omega) (Nat.le_of_ble_eq_true rfl) (Nat.le_of_ble_eq_true rfl) (by rfl) ?_); clear hR; intro ww hR
            refine wpList_nil ?_
            refine hK532 _ _ ?_
            refine wp_region_lit ?_
            refine sA hS hR ((by first | exact Yld.add64 hS rfl rfl (by omega) | exact Yld.add hS rfl rfl)) (by decide) ?_; clear hS; intro aa hS
            refine sA hS hR (Yld.move hS rfl) (by decide) ?_; clear hS; intro aa hS
            refine wpList_nil ?_
            
            refine ⟨(j2 + 1, _), ?_, ?_, hS.le (Le.cons rfl (Le.nilapp (Le.cons rfl (Le.cons rfl (Le.cons rfl (Le.cons rfl (Le.cons rfl (Le.cons rfl (Le.cons rfl (Le.cons rfl (Le.cons rfl (Le.cons rfl (Le.cons rfl (Le.cons rfl (Le.cons rfl (Le.cons rfl (Le.cons rfl (Le.cons rfl (Le.cons rfl (Le.cons rfl (Le.cons rfl (Le.cons rfl (Le.cons rfl (Le.cons rfl (Le.cons rfl (Le.cons rfl (Le.cons rfl (Le.cons rfl (Le.cons rfl (Le.cons rfl (Le.cons rfl (Le.cons rfl (Le.cons rfl (Le.cons rfl (Le.cons rfl (Le.cons rfl (Le.cons rfl (Le.cons rfl (Le.cons rfl (Le.cons rfl (Le.cons rfl (Le.cons rfl (Le.cons rfl (Le.cons rfl (Le.cons rfl (Le.cons rfl (Le.cons rfl (Le.cons rfl (Le.cons rfl (Le.cons rfl (Le.cons rfl (Le.cons rfl (Le.cons rfl (Le.cons rfl (Le.nil _))))))))))))))))))))))))))))))))))))))))))))))))))))))), hR.sub (Ex.take (by repeat (first | with_reducible exact Pk.here | with_reducible apply Pk.there)) (Ex.nilapp (by repeat (first | with_reducible exact Ex.refl | (with_reducible apply Ex.take; · repeat (first | with_reducible exact Pk.here | with_reducible apply Pk.there)) | with_reducible apply Ex.drop))))⟩
            · dsimp only; exact ⟨by omega, hset⟩
            · dsimp only; omega
          · intro hg hS
            have hSn : Seen sn m (P2 lv2 A2.free 0) := by
              have h9 := hI.2
              rw [show j2 = lv2.length by omega] at h9
              exact seen1_all h9
            refine condF hS rfl ?_
            refine wp_exit ?_
            refine hK527 _ _ ?_
            refine wp_seq_k ?_; intro K536 hK536
            refine wp_seq_k ?_; intro K537 hK537
            refine wp_region_lit ?_
            refine sA hS hR (Yld.move hS rfl) (by decide) ?_; clear hS; intro aa hS
            refine sB (Bcall hS rfl Try.call14 (Free_okA (hR.pk (r := arena 57 60 _ _) (by repeat (first | with_reducible exact Pk.here | with_reducible apply Pk.there)))) (by decide) ?_); clear hS; intro aa ww vv hS hp
            clear hR
            obtain ⟨rf, cf, rfl, hR⟩ := hp
            rw [← hfl2] at hR hS
            refine sA hS hR (Yld.len hS rfl Try.underlying36) (by decide) ?_; clear hS; intro aa hS
            refine sA hS hR (Yld.move hS rfl) (by decide) ?_; clear hS; intro aa hS
            refine wpList_nil ?_
            refine hK537 _ _ ?_
            refine wp_block ?_
            replace hR := hR.pk (r := sls (some ⟨bb114, 0, none⟩) m m 4 1 (sn.flatMap eb)) (by repeat (first | with_reducible exact Pk.here | with_reducible apply Pk.there))
            refine loopI (X := Nat × List Bool) [(5, _), (6, _), (8, _), (9, _), (11, _), (12, _), (13, _), (15, _), (43, _), (44, _), (45, _), (46, _), (47, _), (48, _), (49, _), (50, _), (51, _), (52, _), (53, _), (54, _), (55, _), (56, _), (57, _), (58, _), (59, _), (60, _), (61, _), (62, _), (63, _), (64, _), (65, _), (66, _), (67, _), (68, _), (69, _), (70, _), (71, _), (72, _), (73, _), (74, _), (75, _), (76, _), (77, _), (78, _), (79, _), (80, _), (81, _), (82, _), (113, _), (114, _), (115, _), (116, _), (117, _), (118, _), (148, _), (149, _), (150, _)] (fun x => [(151, .int .i64 (x.1 : Int))]) (fun x => [sls (some ⟨bb114, 0, none⟩) m m 4 1 (x.2.flatMap eb)]) _ (fun x => x.1 ≤ A2.free.length ∧ Seen x.2 m (P2 lv2 A2.free x.1)) (fun x => A2.free.length - x.1) (0, sn) ⟨Nat.zero_le _, hSn⟩ (hS.le (Le.cons rfl (Le.nilapp (Le.cons rfl (Le.cons rfl (Le.cons rfl (Le.cons rfl (Le.cons rfl (Le.cons rfl (Le.cons rfl (Le.cons rfl (Le.cons rfl (Le.cons rfl (Le.cons rfl (Le.cons rfl (Le.cons rfl (Le.cons rfl (Le.cons rfl (Le.cons rfl (Le.cons rfl (Le.cons rfl (Le.cons rfl (Le.cons rfl (Le.cons rfl (Le.cons rfl (Le.cons rfl (Le.cons rfl (Le.cons rfl (Le.cons rfl (Le.cons rfl (Le.cons rfl (Le.cons rfl (Le.cons rfl (Le.cons rfl (Le.cons rfl (Le.cons rfl (Le.cons rfl (Le.cons rfl (Le.cons rfl (Le.cons rfl (Le.cons rfl (Le.cons rfl (Le.cons rfl (Le.cons rfl (Le.cons rfl (Le.cons rfl (Le.cons rfl (Le.cons rfl (Le.cons rfl (Le.cons rfl (Le.cons rfl (Le.cons rfl (Le.cons rfl (Le.cons rfl (Le.cons rfl (Le.cons rfl (Le.cons rfl (Le.cons rfl (Le.cons rfl (Le.cons rfl (Le.nil _))))))))))))))))))))))))))))))))))))))))))))))))))))))))))))) hR ?_
            clear hS hR; rintro ⟨j4, sn4⟩ aa ww hI hS hR; dsimp only [List.cons_append, List.nil_append] at hI hS hR
            have hsl4 := hI.2.1
            have hI4 := hI
            refine wp_seq_k ?_; intro K539 hK539
            refine wp_region_lit ?_
            refine sA hS hR (Yld.lss hS rfl rfl) (by decide) ?_; clear hS; intro aa hS
            refine wpList_nil ?_
            refine hK539 _ _ ?_
            refine wp_seq_k ?_; intro K540 hK540
            refine hS.splitB (t := 152) rfl ?_ ?_ <;> clear hS
            · intro hg hS
              obtain ⟨hk4, hno4, hset4⟩ := seen2 hL2 (show j4 < A2.free.length by omega) hI.2
              have hsl := hI.2.1
              obtain ⟨k4, hk4e⟩ : ∃ k : Nat, A2.free[j4]'(by omega) = k := ⟨_, rfl⟩
              rw [hk4e] at hk4 hset4
              replace hno4 : ∀ h : k4 < sn4.length, sn4[k4] = false := by subst hk4e; exact hno4
              have hfj : A2.frees[j4]'(by omega) = (k4 : Int) := by simp [Ar.frees, hk4e]
              refine condT hS rfl ?_
              refine wp_skip ?_
              refine hK540 _ _ ?_
              refine wp_seq_k ?_; intro K541 hK541
              refine wp_block ?_
              refine wp_seq_k ?_; intro K542 hK542
              refine wp_region_lit ?_
              refine sA hS hR ((by first | exact Yld.indexL (sz := 1) _ hS rfl rfl Try.underlying36 info3 (by repeat (first | with_reducible exact Pk.here | with_reducible apply Pk.there)) rfl rfl (by omega) | exact Yld.indexB (sz := 1) _ hS rfl rfl Try.underlying36 info3 rfl rfl (by omega) | exact Yld.indexSlice hS rfl rfl Try.underlying36 info3 (by omega) (by omega))) (by decide) ?_; clear hS; intro aa hS
              refine sA hS hR (Yld.load1 hS rfl Try.underlying3 rfl (by first | exact Rd.blk (by repeat (first | with_reducible exact Pk.here | with_reducible apply Pk.there)) (by rfl) | exact Rd.rec (by repeat (first | with_reducible exact Pk.here | with_reducible apply Pk.there)) (by intro _; rfl) (by omega) rfl | exact Rd.rec0 (by repeat (first | with_reducible exact Pk.here | with_reducible apply Pk.there)) (by intro _; rfl) (by omega) rfl | exact Rd.flatJ (by repeat (first | with_reducible exact Pk.here | with_reducible apply Pk.there)) (by intro _; rfl) (by omega) rfl | exact Rd.flat0 (by repeat (first | with_reducible exact Pk.here | with_reducible apply Pk.there)) (by intro _; rfl) (by omega) rfl)) (by decide) ?_; clear hS; intro aa hS
              replace hS := hS.say (t := 154) (.int .i64 (k4 : Int)) rfl (by rw [hfj])
              refine sA hS hR (Yld.assign hS rfl) (by decide) ?_; clear hS; intro aa hS
              refine wpList_nil ?_
              refine hK542 _ _ ?_
              refine wp_seq_k ?_; intro K543 hK543
              refine wp_seq_k ?_; intro K544 hK544
              refine wp_region_lit ?_
              refine sA hS hR (Yld.move hS rfl) (by decide) ?_; clear hS; intro aa hS
              refine sA hS hR (Yld.lss hS rfl rfl) (by decide) ?_; clear hS; intro aa hS
              replace hS := hS.sayB (t := 156) false rfl (by exact decide_eq_false (by omega))
              refine sA hS hR (Yld.move hS rfl) (by decide) ?_; clear hS; intro aa hS
              refine sAg hS hR rfl rfl (Yld.move hS rfl) (by decide) ?_; clear hS; intro aa hS
              refine sAg hS hR rfl rfl (Yld.move hS rfl) (by decide) ?_; clear hS; intro aa hS
              refine sAg hS hR rfl rfl (Yld.geq hS rfl rfl) (by decide) ?_; clear hS; intro aa hS
              replace hS := hS.sayB (t := 160) false rfl (by exact decide_eq_false (by omega))
              refine sA hS hR (Yld.pickF hS rfl rfl) (by decide) ?_; clear hS; intro aa hS
              refine sA hS hR (Yld.move hS rfl) (by decide) ?_; clear hS; intro aa hS
              refine sAg hS hR rfl rfl (Yld.move hS rfl) (by decide) ?_; clear hS; intro aa hS
              refine sAg hS hR rfl rfl (Yld.move hS rfl) (by decide) ?_; clear hS; intro aa hS
              refine sAg hS hR rfl rfl ((by first | exact Yld.indexL (sz := 1) (k4) hS rfl rfl Try.underlying42 info4 (by repeat (first | with_reducible exact Pk.here | with_reducible apply Pk.there)) rfl (by first | rfl | omega) (by omega) | exact Yld.indexB (sz := 1) (k4) hS rfl rfl Try.underlying42 info4 rfl (by first | rfl | omega) (by omega))) (by decide) ?_; clear hS; intro aa hS
              refine sAg hS hR rfl rfl (Yld.load1 hS rfl Try.underlying4 rfl (by first | exact Rd.blk (by repeat (first | with_reducible exact Pk.here | with_reducible apply Pk.there)) (by rfl) | exact Rd.rec (by repeat (first | with_reducible exact Pk.here | with_reducible apply Pk.there)) (by intro _; rfl) (by omega) rfl | exact Rd.rec0 (by repeat (first | with_reducible exact Pk.here | with_reducible apply Pk.there)) (by intro _; rfl) (by omega) rfl | exact Rd.flatJ (by repeat (first | with_reducible exact Pk.here | with_reducible apply Pk.there)) (by intro _; rfl) (by omega) rfl | exact Rd.flat0 (by repeat (first | with_reducible exact Pk.here | with_reducible apply Pk.there)) (by intro _; rfl) (by omega) rfl)) (by decide) ?_; clear hS; intro aa hS
              replace hS := hS.sayB (t := 166) false rfl (by exact hno4 _)
              refine sA hS hR (Yld.pickF hS rfl rfl) (by decide) ?_; clear hS; intro aa hS
              refine wpList_nil ?_
              refine hK544 _ _ ?_
              refine condF hS rfl ?_
              refine wp_skip ?_
              refine hK543 _ _ ?_
              refine wp_region_lit ?_
              refine sA hS hR (Yld.move hS rfl) (by decide) ?_; clear hS; intro aa hS
              refine sA hS hR (Yld.move hS rfl) (by decide) ?_; clear hS; intro aa hS
              refine sA hS hR ((by first | exact Yld.indexL (sz := 1) (k4) hS rfl rfl Try.underlying42 info4 (by repeat (first | with_reducible exact Pk.here | with_reducible apply Pk.there)) rfl (by first | rfl | omega) (by omega) | exact Yld.indexB (sz := 1) (k4) hS rfl rfl Try.underlying42 info4 rfl (by first | rfl | omega) (by omega))) (by decide) ?_; clear hS; intro aa hS
              refine sB (BstoreR0 (true) hS hR rfl rfl (by rfl) info4 (by rfl) (by repeat (first | with_reducible exact Pk.here | with_reducible apply Pk.there)) (by rfl) (by intro _; rfl) (by omega) (Nat.le_of_ble_eq_true rfl) (Nat.le_of_ble_eq_true rfl) (by rfl) ?_); clear hR; intro ww hR
              refine wpList_nil ?_
              refine hK541 _ _ ?_
              refine wp_region_lit ?_
              refine sA hS hR ((by first | exact Yld.add64 hS rfl rfl (by omega) | exact Yld.add hS rfl rfl)) (by decide) ?_; clear hS; intro aa hS
              refine sA hS hR (Yld.move hS rfl) (by decide) ?_; clear hS; intro aa hS
              refine wpList_nil ?_
              
              refine ⟨(j4 + 1, _), ?_, ?_, hS.le (Le.cons rfl (Le.nilapp (Le.cons rfl (Le.cons rfl (Le.cons rfl (Le.cons rfl (Le.cons rfl (Le.cons rfl (Le.cons rfl (Le.cons rfl (Le.cons rfl (Le.cons rfl (Le.cons rfl (Le.cons rfl (Le.cons rfl (Le.cons rfl (Le.cons rfl (Le.cons rfl (Le.cons rfl (Le.cons rfl (Le.cons rfl (Le.cons rfl (Le.cons rfl (Le.cons rfl (Le.cons rfl (Le.cons rfl (Le.cons rfl (Le.cons rfl (Le.cons rfl (Le.cons rfl (Le.cons rfl (Le.cons rfl (Le.cons rfl (Le.cons rfl (Le.cons rfl (Le.cons rfl (Le.cons rfl (Le.cons rfl (Le.cons rfl (Le.cons rfl (Le.cons rfl (Le.cons rfl (Le.cons rfl (Le.cons rfl (Le.cons rfl (Le.cons rfl (Le.cons rfl (Le.cons rfl (Le.cons rfl (Le.cons rfl (Le.cons rfl (Le.cons rfl (Le.cons rfl (Le.cons rfl (Le.cons rfl (Le.cons rfl (Le.cons rfl (Le.cons rfl (Le.cons rfl (Le.nil _)))))))))))))))))))))))))))))))))))))))))))))))))))))))))))), hR.sub (Ex.take (by repeat (first | with_reducible exact Pk.here | with_reducible apply Pk.there)) (Ex.nilapp (by repeat (first | with_reducible exact Ex.refl | (with_reducible apply Ex.take; · repeat (first | with_reducible exact Pk.here | with_reducible apply Pk.there)) | with_reducible apply Ex.drop))))⟩
              · dsimp only; exact ⟨by omega, hset4⟩
              · dsimp only; omega
            · intro hg hS
              refine condF hS rfl ?_
              refine wp_exit ?_
              refine hK536 _ _ ?_
              refine wp_seq_k ?_; intro K545 hK545
              refine wp_seq_k ?_; intro K546 hK546
              refine wp_region_lit ?_
              refine sA hS hR (Yld.move hS rfl) (by decide) ?_; clear hS; intro aa hS
              refine sA hS hR (Yld.len hS rfl Try.underlying42) (by decide) ?_; clear hS; intro aa hS
              refine sA hS hR (Yld.move hS rfl) (by decide) ?_; clear hS; intro aa hS
              refine wpList_nil ?_
              refine hK546 _ _ ?_
              refine wp_block ?_
              replace hI4 : _ ∧ Seen sn4 m (P2 lv2 A2.free A2.free.length) := ⟨hI4.1, by rw [show A2.free.length = j4 by omega]; exact hI4.2⟩
              refine loopI (X := Nat) [(5, _), (6, _), (8, _), (9, _), (11, _), (12, _), (13, _), (15, _), (43, _), (44, _), (45, _), (46, _), (47, _), (48, _), (49, _), (50, _), (51, _), (52, _), (53, _), (54, _), (55, _), (56, _), (57, _), (58, _), (59, _), (60, _), (61, _), (62, _), (63, _), (64, _), (65, _), (66, _), (67, _), (68, _), (69, _), (70, _), (71, _), (72, _), (73, _), (74, _), (75, _), (76, _), (77, _), (78, _), (79, _), (80, _), (81, _), (82, _), (113, _), (114, _), (115, _), (116, _), (117, _), (118, _), (148, _), (149, _), (150, _), (151, _), (152, _), (172, _), (173, _)] (fun x => [(174, .int .i64 (x : Int))]) (fun x => []) _ (fun x => x ≤ m) (fun x => m - x) 0 (Nat.zero_le _) (hS.le (Le.cons rfl (Le.nilapp (Le.cons rfl (Le.cons rfl (Le.cons rfl (Le.cons rfl (Le.cons rfl (Le.cons rfl (Le.cons rfl (Le.cons rfl (Le.cons rfl (Le.cons rfl (Le.cons rfl (Le.cons rfl (Le.cons rfl (Le.cons rfl (Le.cons rfl (Le.cons rfl (Le.cons rfl (Le.cons rfl (Le.cons rfl (Le.cons rfl (Le.cons rfl (Le.cons rfl (Le.cons rfl (Le.cons rfl (Le.cons rfl (Le.cons rfl (Le.cons rfl (Le.cons rfl (Le.cons rfl (Le.cons rfl (Le.cons rfl (Le.cons rfl (Le.cons rfl (Le.cons rfl (Le.cons rfl (Le.cons rfl (Le.cons rfl (Le.cons rfl (Le.cons rfl (Le.cons rfl (Le.cons rfl (Le.cons rfl (Le.cons rfl (Le.cons rfl (Le.cons rfl (Le.cons rfl (Le.cons rfl (Le.cons rfl (Le.cons rfl (Le.cons rfl (Le.cons rfl (Le.cons rfl (Le.cons rfl (Le.cons rfl (Le.cons rfl (Le.cons rfl (Le.cons rfl (Le.cons rfl (Le.cons rfl (Le.cons rfl (Le.cons rfl (Le.nil _))))))))))))))))))))))))))))))))))))))))))))))))))))))))))))))))) hR ?_
              clear hS hR; rintro k6 aa ww hI hS hR; dsimp only [List.cons_append, List.nil_append] at hI hS hR
              refine wp_seq_k ?_; intro K548 hK548
              refine wp_region_lit ?_
              refine sA hS hR (Yld.lss hS rfl rfl) (by decide) ?_; clear hS; intro aa hS
              refine wpList_nil ?_
              refine hK548 _ _ ?_
              refine wp_seq_k ?_; intro K549 hK549
              refine hS.splitB (t := 175) rfl ?_ ?_ <;> clear hS
              · intro hg hS
                have hy := seen3 hL2 hI4.2 (show k6 < sn4.length by omega)
                refine condT hS rfl ?_
                refine wp_skip ?_
                refine hK549 _ _ ?_
                refine wp_seq_k ?_; intro K550 hK550
                refine wp_block ?_
                refine wp_seq_k ?_; intro K551 hK551
                refine wp_region_lit ?_
                refine sA hS hR ((by first | exact Yld.indexL (sz := 1) _ hS rfl rfl Try.underlying42 info4 (by repeat (first | with_reducible exact Pk.here | with_reducible apply Pk.there)) rfl rfl (by omega) | exact Yld.indexB (sz := 1) _ hS rfl rfl Try.underlying42 info4 rfl rfl (by omega) | exact Yld.indexSlice hS rfl rfl Try.underlying42 info4 (by omega) (by omega))) (by decide) ?_; clear hS; intro aa hS
                refine sA hS hR (Yld.load1 hS rfl Try.underlying4 rfl (by first | exact Rd.blk (by repeat (first | with_reducible exact Pk.here | with_reducible apply Pk.there)) (by rfl) | exact Rd.rec (by repeat (first | with_reducible exact Pk.here | with_reducible apply Pk.there)) (by intro _; rfl) (by omega) rfl | exact Rd.rec0 (by repeat (first | with_reducible exact Pk.here | with_reducible apply Pk.there)) (by intro _; rfl) (by omega) rfl | exact Rd.flatJ (by repeat (first | with_reducible exact Pk.here | with_reducible apply Pk.there)) (by intro _; rfl) (by omega) rfl | exact Rd.flat0 (by repeat (first | with_reducible exact Pk.here | with_reducible apply Pk.there)) (by intro _; rfl) (by omega) rfl)) (by decide) ?_; clear hS; intro aa hS
                replace hS := hS.sayB (t := 177) true rfl (by exact hy)
                refine sA hS hR (Yld.assign hS rfl) (by decide) ?_; clear hS; intro aa hS
                refine wpList_nil ?_
                refine hK551 _ _ ?_
                refine wp_seq_k ?_; intro K552 hK552
                refine wp_region_lit ?_
                refine sA hS hR (Yld.move hS rfl) (by decide) ?_; clear hS; intro aa hS
                refine sA hS hR (Yld.not hS rfl) (by decide) ?_; clear hS; intro aa hS
                refine wpList_nil ?_
                refine hK552 _ _ ?_
                refine condF hS rfl ?_
                refine wp_skip ?_
                refine hK550 _ _ ?_
                refine wp_region_lit ?_
                refine sA hS hR ((by first | exact Yld.add64 hS rfl rfl (by omega) | exact Yld.add hS rfl rfl)) (by decide) ?_; clear hS; intro aa hS
                refine sA hS hR (Yld.move hS rfl) (by decide) ?_; clear hS; intro aa hS
                refine wpList_nil ?_
                
                refine ⟨k6 + 1, ?_, ?_, hS.le (Le.cons rfl (Le.nilapp (Le.cons rfl (Le.cons rfl (Le.cons rfl (Le.cons rfl (Le.cons rfl (Le.cons rfl (Le.cons rfl (Le.cons rfl (Le.cons rfl (Le.cons rfl (Le.cons rfl (Le.cons rfl (Le.cons rfl (Le.cons rfl (Le.cons rfl (Le.cons rfl (Le.cons rfl (Le.cons rfl (Le.cons rfl (Le.cons rfl (Le.cons rfl (Le.cons rfl (Le.cons rfl (Le.cons rfl (Le.cons rfl (Le.cons rfl (Le.cons rfl (Le.cons rfl (Le.cons rfl (Le.cons rfl (Le.cons rfl (Le.cons rfl (Le.cons rfl (Le.cons rfl (Le.cons rfl (Le.cons rfl (Le.cons rfl (Le.cons rfl (Le.cons rfl (Le.cons rfl (Le.cons rfl (Le.cons rfl (Le.cons rfl (Le.cons rfl (Le.cons rfl (Le.cons rfl (Le.cons rfl (Le.cons rfl (Le.cons rfl (Le.cons rfl (Le.cons rfl (Le.cons rfl (Le.cons rfl (Le.cons rfl (Le.cons rfl (Le.cons rfl (Le.cons rfl (Le.cons rfl (Le.cons rfl (Le.cons rfl (Le.cons rfl (Le.nil _)))))))))))))))))))))))))))))))))))))))))))))))))))))))))))))))), hR.sub (Ex.nilapp (by repeat (first | with_reducible exact Ex.refl | (with_reducible apply Ex.take; · repeat (first | with_reducible exact Pk.here | with_reducible apply Pk.there)) | with_reducible apply Ex.drop)))⟩
                · omega
                · omega
              · intro hg hS
                refine condF hS rfl ?_
                refine wp_exit ?_
                refine hK545 _ _ ?_
                refine wp_seq_k ?_; intro K553 hK553
                refine wp_region_lit ?_
                refine sA hS hR (Yld.move hS rfl) (by decide) ?_; clear hS; intro aa hS
                refine sB (Bcall hS rfl Try.call15 (Count_okA (hR.pk (r := arena 57 60 _ _) (by repeat (first | with_reducible exact Pk.here | with_reducible apply Pk.there)))) (by decide) ?_); clear hS; intro aa ww vv hS hp
                clear hR
                obtain ⟨rfl, hR⟩ := hp
                refine sA hS hR (Yld.move hS rfl) (by decide) ?_; clear hS; intro aa hS
                refine sA hS hR (Yld.len hS rfl Try.underlying27) (by decide) ?_; clear hS; intro aa hS
                refine sA hS hR (Yld.neq hS rfl rfl) (by decide) ?_; clear hS; intro aa hS
                replace hS := hS.sayB (t := 185) false rfl (by exact decide_eq_false (by omega))
                refine sA hS hR (Yld.move hS rfl) (by decide) ?_; clear hS; intro aa hS
                refine sAg hS hR rfl rfl (Yld.move hS rfl) (by decide) ?_; clear hS; intro aa hS
                refine sBg hS rfl rfl (Bcall hS rfl Try.call17 (All_okA (hR.pk (r := arena 57 60 _ _) (by repeat (first | with_reducible exact Pk.here | with_reducible apply Pk.there)))) (by decide) ?_); clear hS; intro aa ww vv hS hp
                clear hR
                obtain ⟨ra, ca, rfl, hR⟩ := hp
                refine sAg hS hR rfl rfl (Yld.len hS rfl Try.underlying27) (by decide) ?_; clear hS; intro aa hS
                refine sAg hS hR rfl rfl (Yld.move hS rfl) (by decide) ?_; clear hS; intro aa hS
                refine sAg hS hR rfl rfl (Yld.len hS rfl Try.underlying27) (by decide) ?_; clear hS; intro aa hS
                refine sAg hS hR rfl rfl (Yld.neq hS rfl rfl) (by decide) ?_; clear hS; intro aa hS
                replace hS := hS.sayB (t := 192) false rfl (by exact decide_eq_false (by omega))
                refine sA hS hR (Yld.pickF hS rfl rfl) (by decide) ?_; clear hS; intro aa hS
                refine wpList_nil ?_
                refine hK553 _ _ ?_
                refine condF hS rfl ?_
                refine wp_skip ?_
                refine hK457 _ _ ?_
                refine wp_region_lit ?_
                refine sA hS hR ((by first | exact Yld.add64 hS rfl rfl (by omega) | exact Yld.add hS rfl rfl)) (by decide) ?_; clear hS; intro aa hS
                refine sA hS hR (Yld.move hS rfl) (by decide) ?_; clear hS; intro aa hS
                refine wpList_nil ?_
                
                refine ⟨(j + 1, A2, lv2, gn2, (_, _), (_, _)), ?_, ?_, hS.le (Le.cons rfl (Le.cons rfl (Le.cons rfl (Le.nilapp (Le.cons rfl (Le.cons rfl (Le.cons rfl (Le.cons rfl (Le.nil _))))))))), hR.sub (Ex.take (by repeat (first | with_reducible exact Pk.here | with_reducible apply Pk.there)) (Ex.take (by repeat (first | with_reducible exact Pk.here | with_reducible apply Pk.there)) (Ex.take (by repeat (first | with_reducible exact Pk.here | with_reducible apply Pk.there)) (Ex.nilapp (by repeat (first | with_reducible exact Ex.refl | (with_reducible apply Ex.take; · repeat (first | with_reducible exact Pk.here | with_reducible apply Pk.there)) | with_reducible apply Ex.drop))))))⟩
                · dsimp only; exact ⟨by omega, hL2, hG2, hgl2⟩
                · dsimp only; omega
        · intro hg hS
          obtain ⟨hfr, htp⟩ := top_no hg
          rw [htp] at hS hR; dsimp only at hS hR
          rw [Ar.take_nil hfr] at hR
          have hfrl : A.free.length = 0 := by rw [hfr]; rfl
          have hL2 := hLv
          have hG2 := hGn.mono (show j ≤ j + 1 by omega)
          obtain ⟨A2, hA2⟩ : ∃ x, A = x := ⟨_, rfl⟩
          obtain ⟨lv2, hl2⟩ : ∃ x, live = x := ⟨_, rfl⟩
          obtain ⟨gn2, hg2⟩ : ∃ x, gone = x := ⟨_, rfl⟩
          have hgl2 : gn2.length ≤ j + 1 := by rw [← hg2]; (try simp only [List.length_append, List.length_singleton]); omega
          rw [hA2] at hR hL2 hG2
          rw [hl2] at hR hS hL2
          rw [hg2] at hR hS hG2
          have hcnt := hL2.count
          have hall2 := hL2.all
          have hfl2 : A2.frees.length = A2.free.length := List.length_map _
          have hfr2 : A2.free.length = 0 := by rw [← hA2]; exact hfrl
          refine sA hS hR (Yld.move hS rfl) (by decide) ?_; clear hS; intro aa hS
          refine sA hS hR (Yld.len hS rfl Try.underlying27) (by decide) ?_; clear hS; intro aa hS
          refine sA hS hR (Yld.move hS rfl) (by decide) ?_; clear hS; intro aa hS
          refine sA hS hR (Yld.lss hS rfl rfl) (by decide) ?_; clear hS; intro aa hS
          replace hS := hS.sayB (t := 67) false rfl (by exact decide_eq_false (by omega))
          refine sA hS hR (Yld.neqB hS rfl rfl Try.underlying4) (by decide) ?_; clear hS; intro aa hS
          replace hS := hS.sayB (t := 68) false rfl (by rfl)
          refine sA hS hR (Yld.move hS rfl) (by decide) ?_; clear hS; intro aa hS
          refine sAg hS hR rfl rfl (Yld.move hS rfl) (by decide) ?_; clear hS; intro aa hS
          refine sAg hS hR rfl rfl (Yld.neq hS rfl rfl) (by decide) ?_; clear hS; intro aa hS
          replace hS := hS.sayB (t := 71) true rfl (by simp)
          refine sAg hS hR rfl rfl (Yld.move hS rfl) (by decide) ?_; clear hS; intro aa hS
          refine sAg hS hR rfl rfl (Yld.move hS rfl) (by decide) ?_; clear hS; intro aa hS
          refine sAg hS hR rfl rfl (Yld.neq hS rfl rfl) (by decide) ?_; clear hS; intro aa hS
          replace hS := hS.sayB (t := 74) false rfl (by simp)
          refine sAg hS hR rfl rfl (Yld.pickT hS rfl rfl) (by decide) ?_; clear hS; intro aa hS
          refine sA hS hR (Yld.pickF hS rfl rfl) (by decide) ?_; clear hS; intro aa hS
          refine wpList_nil ?_
          refine hK524 _ _ ?_
          refine condF hS rfl ?_
          refine wp_skip ?_
          refine hK523 _ _ ?_
          refine wp_seq_k ?_; intro K554 hK554
          refine wp_region_lit ?_
          refine sA hS hR (Yld.move hS rfl) (by decide) ?_; clear hS; intro aa hS
          refine sA hS hR (Yld.eql hS rfl rfl) (by decide) ?_; clear hS; intro aa hS
          replace hS := hS.sayB (t := 78) false rfl (by simp)
          refine wpList_nil ?_
          refine hK554 _ _ ?_
          refine condF hS rfl ?_
          refine wp_skip ?_
          refine hK459 _ _ ?_
          refine wp_seq_k ?_; intro K555 hK555
          refine wp_region_lit ?_
          refine sA hS hR (Yld.move hS rfl) (by decide) ?_; clear hS; intro aa hS
          refine sB (Bmake (zc := [.bool false]) hS hR rfl rfl Try.underlying42 info4 rfl (by rfl) (by rfl) (by decide) (by omega) (by show ((1 : Nat) : Int) * _ ≤ _; omega) (by omega) (by decide) ?_); clear hS hR; intro aa ww bb114 hS hR
          replace hR := hR.pk (r := blk bb114 _ _) (by repeat (first | with_reducible exact Pk.here | with_reducible apply Pk.there))
          replace hR := Sep.toRecs (m := m) (sz := 1) (enc := eb) (List.replicate m false) hR (by rw [Int.toNat_natCast]; exact zeros_flat (zc := [.bool false]) false m rfl) (by intro _; rfl) (by simp)
          replace hS := hS.say (t := 114) (.slice (some ⟨bb114, 0, none⟩) m m) rfl (by rw [Int.toNat_natCast])
          refine sA hS hR (Yld.assign hS rfl) (by decide) ?_; clear hS; intro aa hS
          refine wpList_nil ?_
          refine hK555 _ _ ?_
          refine wp_seq_k ?_; intro K556 hK556
          refine wp_seq_k ?_; intro K557 hK557
          refine wp_region_lit ?_
          refine sA hS hR (Yld.move hS rfl) (by decide) ?_; clear hS; intro aa hS
          refine sA hS hR (Yld.len hS rfl Try.underlying27) (by decide) ?_; clear hS; intro aa hS
          refine sA hS hR (Yld.move hS rfl) (by decide) ?_; clear hS; intro aa hS
          refine wpList_nil ?_
          refine hK557 _ _ ?_
          refine wp_block ?_
          replace hR := hR.pk (r := sls (some ⟨bb114, 0, none⟩) m m 4 1 ((List.replicate m false).flatMap eb)) (by repeat (first | with_reducible exact Pk.here | with_reducible apply Pk.there))
          refine loopI (X := Nat × List Bool) [(5, _), (6, _), (8, _), (9, _), (11, _), (12, _), (13, _), (15, _), (43, _), (44, _), (45, _), (46, _), (47, _), (48, _), (49, _), (50, _), (51, _), (52, _), (53, _), (54, _), (55, _), (56, _), (57, _), (58, _), (59, _), (60, _), (61, _), (62, _), (63, _), (64, _), (65, _), (66, _), (67, _), (68, _), (69, _), (70, _), (71, _), (72, _), (73, _), (74, _), (75, _), (76, _), (77, _), (78, _), (113, _), (114, _), (115, _), (116, _)] (fun x => [(117, .int .i64 (x.1 : Int))]) (fun x => [sls (some ⟨bb114, 0, none⟩) m m 4 1 (x.2.flatMap eb)]) _ (fun x => x.1 ≤ lv2.length ∧ Seen x.2 m (P1 lv2 x.1)) (fun x => lv2.length - x.1) (0, List.replicate m false) ⟨Nat.zero_le _, (Seen.none m).mono (fun i _ => by simp [P1])⟩ (hS.le (Le.cons rfl (Le.nilapp (Le.cons rfl (Le.cons rfl (Le.cons rfl (Le.cons rfl (Le.cons rfl (Le.cons rfl (Le.cons rfl (Le.cons rfl (Le.cons rfl (Le.cons rfl (Le.cons rfl (Le.cons rfl (Le.cons rfl (Le.cons rfl (Le.cons rfl (Le.cons rfl (Le.cons rfl (Le.cons rfl (Le.cons rfl (Le.cons rfl (Le.cons rfl (Le.cons rfl (Le.cons rfl (Le.cons rfl (Le.cons rfl (Le.cons rfl (Le.cons rfl (Le.cons rfl (Le.cons rfl (Le.cons rfl (Le.cons rfl (Le.cons rfl (Le.cons rfl (Le.cons rfl (Le.cons rfl (Le.cons rfl (Le.cons rfl (Le.cons rfl (Le.cons rfl (Le.cons rfl (Le.cons rfl (Le.cons rfl (Le.cons rfl (Le.cons rfl (Le.cons rfl (Le.cons rfl (Le.cons rfl (Le.cons rfl (Le.nil _)))))))))))))))))))))))))))))))))))))))))))))))))))) hR ?_
          clear hS hR; rintro ⟨j2, sn⟩ aa ww hI hS hR; dsimp only [List.cons_append, List.nil_append] at hI hS hR
          have hsl := hI.2.1
          refine wp_seq_k ?_; intro K559 hK559
          refine wp_region_lit ?_
          refine sA hS hR (Yld.lss hS rfl rfl) (by decide) ?_; clear hS; intro aa hS
          refine wpList_nil ?_
          refine hK559 _ _ ?_
          refine wp_seq_k ?_; intro K560 hK560
          refine hS.splitB (t := 118) rfl ?_ ?_ <;> clear hS
          · intro hg hS
            obtain ⟨k, hk, hkn, hkl2, hno, hset, hat⟩ := seen1 hL2 (show j2 < lv2.length by omega) hI.2
            refine condT hS rfl ?_
            refine wp_skip ?_
            refine hK560 _ _ ?_
            refine wp_seq_k ?_; intro K561 hK561
            refine wp_block ?_
            refine wp_seq_k ?_; intro K562 hK562
            refine wp_region_lit ?_
            refine sA hS hR ((by first | exact Yld.indexL (sz := 2) _ hS rfl rfl Try.underlying27 info29 (by repeat (first | with_reducible exact Pk.here | with_reducible apply Pk.there)) rfl rfl (by omega) | exact Yld.indexB (sz := 2) _ hS rfl rfl Try.underlying27 info29 rfl rfl (by omega) | exact Yld.indexSlice hS rfl rfl Try.underlying27 info29 (by omega) (by omega))) (by decide) ?_; clear hS; intro aa hS
            refine sA hS hR (Yld.loadAgg hS rfl Try.underlying29 rfl info29 (by first | exact Rds.cons (Rd.blk (by repeat (first | with_reducible exact Pk.here | with_reducible apply Pk.there)) (by rfl)) (Rds.cons (Rd.blk (by repeat (first | with_reducible exact Pk.here | with_reducible apply Pk.there)) (by rfl)) (Rds.nil)) | exact Rds.rec (by repeat (first | with_reducible exact Pk.here | with_reducible apply Pk.there)) (by intro _; rfl) (by omega) | exact Rds.flat1 (by repeat (first | with_reducible exact Pk.here | with_reducible apply Pk.there)) (by intro _; rfl) (by omega)) (by rfl)) (by decide) ?_; clear hS; intro aa hS
            refine sB (Balloc hS hR info29 (by rfl) (by rfl) (by decide) ?_); clear hS hR; intro aa ww bb17 hS hR
            refine sB (Bstore hS hR rfl rfl (by rfl) info29 (by rfl) (by repeat (first | with_reducible exact Pk.here | with_reducible apply Pk.there)) (by rfl) (Nat.le_of_ble_eq_true rfl) ?_); clear hR; intro ww hR
            refine wpList_nil ?_
            refine hK562 _ _ ?_
            refine wp_seq_k ?_; intro K563 hK563
            refine wp_seq_k ?_; intro K564 hK564
            refine wp_region_lit ?_
            refine sA hS hR (Yld.fieldAddr hS rfl 0 Try.underlying29 rfl rfl info3 (by decide)) (by decide) ?_; clear hS; intro aa hS
            refine sA hS hR (Yld.load1 hS rfl Try.underlying3 rfl (by first | exact Rd.blk (by repeat (first | with_reducible exact Pk.here | with_reducible apply Pk.there)) (by rfl) | exact Rd.rec (by repeat (first | with_reducible exact Pk.here | with_reducible apply Pk.there)) (by intro _; rfl) (by omega) rfl | exact Rd.rec0 (by repeat (first | with_reducible exact Pk.here | with_reducible apply Pk.there)) (by intro _; rfl) (by omega) rfl | exact Rd.flatJ (by repeat (first | with_reducible exact Pk.here | with_reducible apply Pk.there)) (by intro _; rfl) (by omega) rfl | exact Rd.flat0 (by repeat (first | with_reducible exact Pk.here | with_reducible apply Pk.there)) (by intro _; rfl) (by omega) rfl)) (by decide) ?_; clear hS; intro aa hS
            refine sA hS hR (Yld.lss hS rfl rfl) (by decide) ?_; clear hS; intro aa hS
            replace hS := hS.sayB (t := 123) false rfl (by exact decide_eq_false (by omega))
            refine sA hS hR (Yld.move hS rfl) (by decide) ?_; clear hS; intro aa hS
            refine sAg hS hR rfl rfl (Yld.fieldAddr hS rfl 0 Try.underlying29 rfl rfl info3 (by decide)) (by decide) ?_; clear hS; intro aa hS
            refine sAg hS hR rfl rfl (Yld.load1 hS rfl Try.underlying3 rfl (by first | exact Rd.blk (by repeat (first | with_reducible exact Pk.here | with_reducible apply Pk.there)) (by rfl) | exact Rd.rec (by repeat (first | with_reducible exact Pk.here | with_reducible apply Pk.there)) (by intro _; rfl) (by omega) rfl | exact Rd.rec0 (by repeat (first | with_reducible exact Pk.here | with_reducible apply Pk.there)) (by intro _; rfl) (by omega) rfl | exact Rd.flatJ (by repeat (first | with_reducible exact Pk.here | with_reducible apply Pk.there)) (by intro _; rfl) (by omega) rfl | exact Rd.flat0 (by repeat (first | with_reducible exact Pk.here | with_reducible apply Pk.there)) (by intro _; rfl) (by omega) rfl)) (by decide) ?_; clear hS; intro aa hS
            refine sAg hS hR rfl rfl (Yld.move hS rfl) (by decide) ?_; clear hS; intro aa hS
            refine sAg hS hR rfl rfl (Yld.geq hS rfl rfl) (by decide) ?_; clear hS; intro aa hS
            replace hS := hS.sayB (t := 128) false rfl (by exact decide_eq_false (by omega))
            refine sA hS hR (Yld.pickF hS rfl rfl) (by decide) ?_; clear hS; intro aa hS
            refine sA hS hR (Yld.move hS rfl) (by decide) ?_; clear hS; intro aa hS
            refine sAg hS hR rfl rfl (Yld.move hS rfl) (by decide) ?_; clear hS; intro aa hS
            refine sAg hS hR rfl rfl (Yld.fieldAddr hS rfl 0 Try.underlying29 rfl rfl info3 (by decide)) (by decide) ?_; clear hS; intro aa hS
            refine sAg hS hR rfl rfl (Yld.load1 hS rfl Try.underlying3 rfl (by first | exact Rd.blk (by repeat (first | with_reducible exact Pk.here | with_reducible apply Pk.there)) (by rfl) | exact Rd.rec (by repeat (first | with_reducible exact Pk.here | with_reducible apply Pk.there)) (by intro _; rfl) (by omega) rfl | exact Rd.rec0 (by repeat (first | with_reducible exact Pk.here | with_reducible apply Pk.there)) (by intro _; rfl) (by omega) rfl | exact Rd.flatJ (by repeat (first | with_reducible exact Pk.here | with_reducible apply Pk.there)) (by intro _; rfl) (by omega) rfl | exact Rd.flat0 (by repeat (first | with_reducible exact Pk.here | with_reducible apply Pk.there)) (by intro _; rfl) (by omega) rfl)) (by decide) ?_; clear hS; intro aa hS
            refine sAg hS hR rfl rfl ((by first | exact Yld.indexL (sz := 1) (k) hS rfl rfl Try.underlying42 info4 (by repeat (first | with_reducible exact Pk.here | with_reducible apply Pk.there)) rfl (by first | rfl | omega) (by omega) | exact Yld.indexB (sz := 1) (k) hS rfl rfl Try.underlying42 info4 rfl (by first | rfl | omega) (by omega))) (by decide) ?_; clear hS; intro aa hS
            refine sAg hS hR rfl rfl (Yld.load1 hS rfl Try.underlying4 rfl (by first | exact Rd.blk (by repeat (first | with_reducible exact Pk.here | with_reducible apply Pk.there)) (by rfl) | exact Rd.rec (by repeat (first | with_reducible exact Pk.here | with_reducible apply Pk.there)) (by intro _; rfl) (by omega) rfl | exact Rd.rec0 (by repeat (first | with_reducible exact Pk.here | with_reducible apply Pk.there)) (by intro _; rfl) (by omega) rfl | exact Rd.flatJ (by repeat (first | with_reducible exact Pk.here | with_reducible apply Pk.there)) (by intro _; rfl) (by omega) rfl | exact Rd.flat0 (by repeat (first | with_reducible exact Pk.here | with_reducible apply Pk.there)) (by intro _; rfl) (by omega) rfl)) (by decide) ?_; clear hS; intro aa hS
            replace hS := hS.sayB (t := 135) false rfl (by exact hno _)
            refine sA hS hR (Yld.pickF hS rfl rfl) (by decide) ?_; clear hS; intro aa hS
            refine sA hS hR (Yld.move hS rfl) (by decide) ?_; clear hS; intro aa hS
            refine sAg hS hR rfl rfl (Yld.move hS rfl) (by decide) ?_; clear hS; intro aa hS
            refine sAg hS hR rfl rfl (Yld.loadAgg hS rfl Try.underlying29 rfl info29 (by first | exact Rds.cons (Rd.blk (by repeat (first | with_reducible exact Pk.here | with_reducible apply Pk.there)) (by rfl)) (Rds.cons (Rd.blk (by repeat (first | with_reducible exact Pk.here | with_reducible apply Pk.there)) (by rfl)) (Rds.nil)) | exact Rds.rec (by repeat (first | with_reducible exact Pk.here | with_reducible apply Pk.there)) (by intro _; rfl) (by omega) | exact Rds.flat1 (by repeat (first | with_reducible exact Pk.here | with_reducible apply Pk.there)) (by intro _; rfl) (by omega)) (by rfl)) (by decide) ?_; clear hS; intro aa hS
            refine sBg hS rfl rfl (Bcall hS rfl Try.call13 (Live_okA (hR.pk (r := arena 57 60 _ _) (by repeat (first | with_reducible exact Pk.here | with_reducible apply Pk.there)))) (by decide) ?_); clear hS; intro aa ww vv hS hp
            clear hR
            obtain ⟨rfl, hR⟩ := hp
            replace hS := hS.sayB (t := 140) true rfl (by exact decide_eq_true hat)
            refine sAg hS hR rfl rfl (Yld.not hS rfl) (by decide) ?_; clear hS; intro aa hS
            refine sA hS hR (Yld.pickF hS rfl rfl) (by decide) ?_; clear hS; intro aa hS
            refine wpList_nil ?_
            refine hK564 _ _ ?_
            refine condF hS rfl ?_
            refine wp_skip ?_
            refine hK563 _ _ ?_
            refine wp_region_lit ?_
            refine sA hS hR (Yld.move hS rfl) (by decide) ?_; clear hS; intro aa hS
            refine sA hS hR (Yld.fieldAddr hS rfl 0 Try.underlying29 rfl rfl info3 (by decide)) (by decide) ?_; clear hS; intro aa hS
            refine sA hS hR (Yld.load1 hS rfl Try.underlying3 rfl (by first | exact Rd.blk (by repeat (first | with_reducible exact Pk.here | with_reducible apply Pk.there)) (by rfl) | exact Rd.rec (by repeat (first | with_reducible exact Pk.here | with_reducible apply Pk.there)) (by intro _; rfl) (by omega) rfl | exact Rd.rec0 (by repeat (first | with_reducible exact Pk.here | with_reducible apply Pk.there)) (by intro _; rfl) (by omega) rfl | exact Rd.flatJ (by repeat (first | with_reducible exact Pk.here | with_reducible apply Pk.there)) (by intro _; rfl) (by omega) rfl | exact Rd.flat0 (by repeat (first | with_reducible exact Pk.here | with_reducible apply Pk.there)) (by intro _; rfl) (by omega) rfl)) (by decide) ?_; clear hS; intro aa hS
            refine sA hS hR ((by first | exact Yld.indexL (sz := 1) (k) hS rfl rfl Try.underlying42 info4 (by repeat (first | with_reducible exact Pk.here | with_reducible apply Pk.there)) rfl (by first | rfl | omega) (by omega) | exact Yld.indexB (sz := 1) (k) hS rfl rfl Try.underlying42 info4 rfl (by first | rfl | omega) (by omega))) (by decide) ?_; clear hS; intro aa hS
            refine sB (BstoreR0 (true) hS hR rfl rfl (by rfl) info4 (by rfl) (by repeat (first | with_reducible exact Pk.here | with_reducible apply Pk.there)) (by rfl) (by intro _; rfl) (by omega) (Nat.le_of_ble_eq_true rfl) (Nat.le_of_ble_eq_true rfl) (by rfl) ?_); clear hR; intro ww hR
            refine wpList_nil ?_
            refine hK561 _ _ ?_
            refine wp_region_lit ?_
            refine sA hS hR ((by first | exact Yld.add64 hS rfl rfl (by omega) | exact Yld.add hS rfl rfl)) (by decide) ?_; clear hS; intro aa hS
            refine sA hS hR (Yld.move hS rfl) (by decide) ?_; clear hS; intro aa hS
            refine wpList_nil ?_
            
            refine ⟨(j2 + 1, _), ?_, ?_, hS.le (Le.cons rfl (Le.nilapp (Le.cons rfl (Le.cons rfl (Le.cons rfl (Le.cons rfl (Le.cons rfl (Le.cons rfl (Le.cons rfl (Le.cons rfl (Le.cons rfl (Le.cons rfl (Le.cons rfl (Le.cons rfl (Le.cons rfl (Le.cons rfl (Le.cons rfl (Le.cons rfl (Le.cons rfl (Le.cons rfl (Le.cons rfl (Le.cons rfl (Le.cons rfl (Le.cons rfl (Le.cons rfl (Le.cons rfl (Le.cons rfl (Le.cons rfl (Le.cons rfl (Le.cons rfl (Le.cons rfl (Le.cons rfl (Le.cons rfl (Le.cons rfl (Le.cons rfl (Le.cons rfl (Le.cons rfl (Le.cons rfl (Le.cons rfl (Le.cons rfl (Le.cons rfl (Le.cons rfl (Le.cons rfl (Le.cons rfl (Le.cons rfl (Le.cons rfl (Le.cons rfl (Le.cons rfl (Le.cons rfl (Le.cons rfl (Le.nil _))))))))))))))))))))))))))))))))))))))))))))))))))), hR.sub (Ex.take (by repeat (first | with_reducible exact Pk.here | with_reducible apply Pk.there)) (Ex.nilapp (by repeat (first | with_reducible exact Ex.refl | (with_reducible apply Ex.take; · repeat (first | with_reducible exact Pk.here | with_reducible apply Pk.there)) | with_reducible apply Ex.drop))))⟩
            · dsimp only; exact ⟨by omega, hset⟩
            · dsimp only; omega
          · intro hg hS
            have hSn : Seen sn m (P2 lv2 A2.free 0) := by
              have h9 := hI.2
              rw [show j2 = lv2.length by omega] at h9
              exact seen1_all h9
            refine condF hS rfl ?_
            refine wp_exit ?_
            refine hK556 _ _ ?_
            refine wp_seq_k ?_; intro K565 hK565
            refine wp_seq_k ?_; intro K566 hK566
            refine wp_region_lit ?_
            refine sA hS hR (Yld.move hS rfl) (by decide) ?_; clear hS; intro aa hS
            refine sB (Bcall hS rfl Try.call14 (Free_okA (hR.pk (r := arena 57 60 _ _) (by repeat (first | with_reducible exact Pk.here | with_reducible apply Pk.there)))) (by decide) ?_); clear hS; intro aa ww vv hS hp
            clear hR
            obtain ⟨rf, cf, rfl, hR⟩ := hp
            rw [← hfl2] at hR hS
            refine sA hS hR (Yld.len hS rfl Try.underlying36) (by decide) ?_; clear hS; intro aa hS
            refine sA hS hR (Yld.move hS rfl) (by decide) ?_; clear hS; intro aa hS
            refine wpList_nil ?_
            refine hK566 _ _ ?_
            refine wp_block ?_
            replace hR := hR.pk (r := sls (some ⟨bb114, 0, none⟩) m m 4 1 (sn.flatMap eb)) (by repeat (first | with_reducible exact Pk.here | with_reducible apply Pk.there))
            refine loopI (X := Nat × List Bool) [(5, _), (6, _), (8, _), (9, _), (11, _), (12, _), (13, _), (15, _), (43, _), (44, _), (45, _), (46, _), (47, _), (48, _), (49, _), (50, _), (51, _), (52, _), (53, _), (54, _), (55, _), (56, _), (57, _), (58, _), (59, _), (60, _), (61, _), (62, _), (63, _), (64, _), (65, _), (66, _), (67, _), (68, _), (69, _), (70, _), (71, _), (72, _), (73, _), (74, _), (75, _), (76, _), (77, _), (78, _), (113, _), (114, _), (115, _), (116, _), (117, _), (118, _), (148, _), (149, _), (150, _)] (fun x => [(151, .int .i64 (x.1 : Int))]) (fun x => [sls (some ⟨bb114, 0, none⟩) m m 4 1 (x.2.flatMap eb)]) _ (fun x => x.1 ≤ A2.free.length ∧ Seen x.2 m (P2 lv2 A2.free x.1)) (fun x => A2.free.length - x.1) (0, sn) ⟨Nat.zero_le _, hSn⟩ (hS.le (Le.cons rfl (Le.nilapp (Le.cons rfl (Le.cons rfl (Le.cons rfl (Le.cons rfl (Le.cons rfl (Le.cons rfl (Le.cons rfl (Le.cons rfl (Le.cons rfl (Le.cons rfl (Le.cons rfl (Le.cons rfl (Le.cons rfl (Le.cons rfl (Le.cons rfl (Le.cons rfl (Le.cons rfl (Le.cons rfl (Le.cons rfl (Le.cons rfl (Le.cons rfl (Le.cons rfl (Le.cons rfl (Le.cons rfl (Le.cons rfl (Le.cons rfl (Le.cons rfl (Le.cons rfl (Le.cons rfl (Le.cons rfl (Le.cons rfl (Le.cons rfl (Le.cons rfl (Le.cons rfl (Le.cons rfl (Le.cons rfl (Le.cons rfl (Le.cons rfl (Le.cons rfl (Le.cons rfl (Le.cons rfl (Le.cons rfl (Le.cons rfl (Le.cons rfl (Le.cons rfl (Le.cons rfl (Le.cons rfl (Le.cons rfl (Le.cons rfl (Le.cons rfl (Le.cons rfl (Le.cons rfl (Le.cons rfl (Le.nil _))))))))))))))))))))))))))))))))))))))))))))))))))))))))) hR ?_
            clear hS hR; rintro ⟨j4, sn4⟩ aa ww hI hS hR; dsimp only [List.cons_append, List.nil_append] at hI hS hR
            have hsl4 := hI.2.1
            have hI4 := hI
            refine wp_seq_k ?_; intro K568 hK568
            refine wp_region_lit ?_
            refine sA hS hR (Yld.lss hS rfl rfl) (by decide) ?_; clear hS; intro aa hS
            refine wpList_nil ?_
            refine hK568 _ _ ?_
            refine wp_seq_k ?_; intro K569 hK569
            refine hS.splitB (t := 152) rfl ?_ ?_ <;> clear hS
            · intro hg hS
              obtain ⟨hk4, hno4, hset4⟩ := seen2 hL2 (show j4 < A2.free.length by omega) hI.2
              have hsl := hI.2.1
              obtain ⟨k4, hk4e⟩ : ∃ k : Nat, A2.free[j4]'(by omega) = k := ⟨_, rfl⟩
              rw [hk4e] at hk4 hset4
              replace hno4 : ∀ h : k4 < sn4.length, sn4[k4] = false := by subst hk4e; exact hno4
              have hfj : A2.frees[j4]'(by omega) = (k4 : Int) := by simp [Ar.frees, hk4e]
              refine condT hS rfl ?_
              refine wp_skip ?_
              refine hK569 _ _ ?_
              refine wp_seq_k ?_; intro K570 hK570
              refine wp_block ?_
              refine wp_seq_k ?_; intro K571 hK571
              refine wp_region_lit ?_
              refine sA hS hR ((by first | exact Yld.indexL (sz := 1) _ hS rfl rfl Try.underlying36 info3 (by repeat (first | with_reducible exact Pk.here | with_reducible apply Pk.there)) rfl rfl (by omega) | exact Yld.indexB (sz := 1) _ hS rfl rfl Try.underlying36 info3 rfl rfl (by omega) | exact Yld.indexSlice hS rfl rfl Try.underlying36 info3 (by omega) (by omega))) (by decide) ?_; clear hS; intro aa hS
              refine sA hS hR (Yld.load1 hS rfl Try.underlying3 rfl (by first | exact Rd.blk (by repeat (first | with_reducible exact Pk.here | with_reducible apply Pk.there)) (by rfl) | exact Rd.rec (by repeat (first | with_reducible exact Pk.here | with_reducible apply Pk.there)) (by intro _; rfl) (by omega) rfl | exact Rd.rec0 (by repeat (first | with_reducible exact Pk.here | with_reducible apply Pk.there)) (by intro _; rfl) (by omega) rfl | exact Rd.flatJ (by repeat (first | with_reducible exact Pk.here | with_reducible apply Pk.there)) (by intro _; rfl) (by omega) rfl | exact Rd.flat0 (by repeat (first | with_reducible exact Pk.here | with_reducible apply Pk.there)) (by intro _; rfl) (by omega) rfl)) (by decide) ?_; clear hS; intro aa hS
              replace hS := hS.say (t := 154) (.int .i64 (k4 : Int)) rfl (by rw [hfj])
              refine sA hS hR (Yld.assign hS rfl) (by decide) ?_; clear hS; intro aa hS
              refine wpList_nil ?_
              refine hK571 _ _ ?_
              refine wp_seq_k ?_; intro K572 hK572
              refine wp_seq_k ?_; intro K573 hK573
              refine wp_region_lit ?_
              refine sA hS hR (Yld.move hS rfl) (by decide) ?_; clear hS; intro aa hS
              refine sA hS hR (Yld.lss hS rfl rfl) (by decide) ?_; clear hS; intro aa hS
              replace hS := hS.sayB (t := 156) false rfl (by exact decide_eq_false (by omega))
              refine sA hS hR (Yld.move hS rfl) (by decide) ?_; clear hS; intro aa hS
              refine sAg hS hR rfl rfl (Yld.move hS rfl) (by decide) ?_; clear hS; intro aa hS
              refine sAg hS hR rfl rfl (Yld.move hS rfl) (by decide) ?_; clear hS; intro aa hS
              refine sAg hS hR rfl rfl (Yld.geq hS rfl rfl) (by decide) ?_; clear hS; intro aa hS
              replace hS := hS.sayB (t := 160) false rfl (by exact decide_eq_false (by omega))
              refine sA hS hR (Yld.pickF hS rfl rfl) (by decide) ?_; clear hS; intro aa hS
              refine sA hS hR (Yld.move hS rfl) (by decide) ?_; clear hS; intro aa hS
              refine sAg hS hR rfl rfl (Yld.move hS rfl) (by decide) ?_; clear hS; intro aa hS
              refine sAg hS hR rfl rfl (Yld.move hS rfl) (by decide) ?_; clear hS; intro aa hS
              refine sAg hS hR rfl rfl ((by first | exact Yld.indexL (sz := 1) (k4) hS rfl rfl Try.underlying42 info4 (by repeat (first | with_reducible exact Pk.here | with_reducible apply Pk.there)) rfl (by first | rfl | omega) (by omega) | exact Yld.indexB (sz := 1) (k4) hS rfl rfl Try.underlying42 info4 rfl (by first | rfl | omega) (by omega))) (by decide) ?_; clear hS; intro aa hS
              refine sAg hS hR rfl rfl (Yld.load1 hS rfl Try.underlying4 rfl (by first | exact Rd.blk (by repeat (first | with_reducible exact Pk.here | with_reducible apply Pk.there)) (by rfl) | exact Rd.rec (by repeat (first | with_reducible exact Pk.here | with_reducible apply Pk.there)) (by intro _; rfl) (by omega) rfl | exact Rd.rec0 (by repeat (first | with_reducible exact Pk.here | with_reducible apply Pk.there)) (by intro _; rfl) (by omega) rfl | exact Rd.flatJ (by repeat (first | with_reducible exact Pk.here | with_reducible apply Pk.there)) (by intro _; rfl) (by omega) rfl | exact Rd.flat0 (by repeat (first | with_reducible exact Pk.here | with_reducible apply Pk.there)) (by intro _; rfl) (by omega) rfl)) (by decide) ?_; clear hS; intro aa hS
              replace hS := hS.sayB (t := 166) false rfl (by exact hno4 _)
              refine sA hS hR (Yld.pickF hS rfl rfl) (by decide) ?_; clear hS; intro aa hS
              refine wpList_nil ?_
              refine hK573 _ _ ?_
              refine condF hS rfl ?_
              refine wp_skip ?_
              refine hK572 _ _ ?_
              refine wp_region_lit ?_
              refine sA hS hR (Yld.move hS rfl) (by decide) ?_; clear hS; intro aa hS
              refine sA hS hR (Yld.move hS rfl) (by decide) ?_; clear hS; intro aa hS
              refine sA hS hR ((by first | exact Yld.indexL (sz := 1) (k4) hS rfl rfl Try.underlying42 info4 (by repeat (first | with_reducible exact Pk.here | with_reducible apply Pk.there)) rfl (by first | rfl | omega) (by omega) | exact Yld.indexB (sz := 1) (k4) hS rfl rfl Try.underlying42 info4 rfl (by first | rfl | omega) (by omega))) (by decide) ?_; clear hS; intro aa hS
              refine sB (BstoreR0 (true) hS hR rfl rfl (by rfl) info4 (by rfl) (by repeat (first | with_reducible exact Pk.here | with_reducible apply Pk.there)) (by rfl) (by intro _; rfl) (by omega) (Nat.le_of_ble_eq_true rfl) (Nat.le_of_ble_eq_true rfl) (by rfl) ?_); clear hR; intro ww hR
              refine wpList_nil ?_
              refine hK570 _ _ ?_
              refine wp_region_lit ?_
              refine sA hS hR ((by first | exact Yld.add64 hS rfl rfl (by omega) | exact Yld.add hS rfl rfl)) (by decide) ?_; clear hS; intro aa hS
              refine sA hS hR (Yld.move hS rfl) (by decide) ?_; clear hS; intro aa hS
              refine wpList_nil ?_
              
              refine ⟨(j4 + 1, _), ?_, ?_, hS.le (Le.cons rfl (Le.nilapp (Le.cons rfl (Le.cons rfl (Le.cons rfl (Le.cons rfl (Le.cons rfl (Le.cons rfl (Le.cons rfl (Le.cons rfl (Le.cons rfl (Le.cons rfl (Le.cons rfl (Le.cons rfl (Le.cons rfl (Le.cons rfl (Le.cons rfl (Le.cons rfl (Le.cons rfl (Le.cons rfl (Le.cons rfl (Le.cons rfl (Le.cons rfl (Le.cons rfl (Le.cons rfl (Le.cons rfl (Le.cons rfl (Le.cons rfl (Le.cons rfl (Le.cons rfl (Le.cons rfl (Le.cons rfl (Le.cons rfl (Le.cons rfl (Le.cons rfl (Le.cons rfl (Le.cons rfl (Le.cons rfl (Le.cons rfl (Le.cons rfl (Le.cons rfl (Le.cons rfl (Le.cons rfl (Le.cons rfl (Le.cons rfl (Le.cons rfl (Le.cons rfl (Le.cons rfl (Le.cons rfl (Le.cons rfl (Le.cons rfl (Le.cons rfl (Le.cons rfl (Le.cons rfl (Le.cons rfl (Le.nil _)))))))))))))))))))))))))))))))))))))))))))))))))))))))), hR.sub (Ex.take (by repeat (first | with_reducible exact Pk.here | with_reducible apply Pk.there)) (Ex.nilapp (by repeat (first | with_reducible exact Ex.refl | (with_reducible apply Ex.take; · repeat (first | with_reducible exact Pk.here | with_reducible apply Pk.there)) | with_reducible apply Ex.drop))))⟩
              · dsimp only; exact ⟨by omega, hset4⟩
              · dsimp only; omega
            · intro hg hS
              refine condF hS rfl ?_
              refine wp_exit ?_
              refine hK565 _ _ ?_
              refine wp_seq_k ?_; intro K574 hK574
              refine wp_seq_k ?_; intro K575 hK575
              refine wp_region_lit ?_
              refine sA hS hR (Yld.move hS rfl) (by decide) ?_; clear hS; intro aa hS
              refine sA hS hR (Yld.len hS rfl Try.underlying42) (by decide) ?_; clear hS; intro aa hS
              refine sA hS hR (Yld.move hS rfl) (by decide) ?_; clear hS; intro aa hS
              refine wpList_nil ?_
              refine hK575 _ _ ?_
              refine wp_block ?_
              replace hI4 : _ ∧ Seen sn4 m (P2 lv2 A2.free A2.free.length) := ⟨hI4.1, by rw [show A2.free.length = j4 by omega]; exact hI4.2⟩
              refine loopI (X := Nat) [(5, _), (6, _), (8, _), (9, _), (11, _), (12, _), (13, _), (15, _), (43, _), (44, _), (45, _), (46, _), (47, _), (48, _), (49, _), (50, _), (51, _), (52, _), (53, _), (54, _), (55, _), (56, _), (57, _), (58, _), (59, _), (60, _), (61, _), (62, _), (63, _), (64, _), (65, _), (66, _), (67, _), (68, _), (69, _), (70, _), (71, _), (72, _), (73, _), (74, _), (75, _), (76, _), (77, _), (78, _), (113, _), (114, _), (115, _), (116, _), (117, _), (118, _), (148, _), (149, _), (150, _), (151, _), (152, _), (172, _), (173, _)] (fun x => [(174, .int .i64 (x : Int))]) (fun x => []) _ (fun x => x ≤ m) (fun x => m - x) 0 (Nat.zero_le _) (hS.le (Le.cons rfl (Le.nilapp (Le.cons rfl (Le.cons rfl (Le.cons rfl (Le.cons rfl (Le.cons rfl (Le.cons rfl (Le.cons rfl (Le.cons rfl (Le.cons rfl (Le.cons rfl (Le.cons rfl (Le.cons rfl (Le.cons rfl (Le.cons rfl (Le.cons rfl (Le.cons rfl (Le.cons rfl (Le.cons rfl (Le.cons rfl (Le.cons rfl (Le.cons rfl (Le.cons rfl (Le.cons rfl (Le.cons rfl (Le.cons rfl (Le.cons rfl (Le.cons rfl (Le.cons rfl (Le.cons rfl (Le.cons rfl (Le.cons rfl (Le.cons rfl (Le.cons rfl (Le.cons rfl (Le.cons rfl (Le.cons rfl (Le.cons rfl (Le.cons rfl (Le.cons rfl (Le.cons rfl (Le.cons rfl (Le.cons rfl (Le.cons rfl (Le.cons rfl (Le.cons rfl (Le.cons rfl (Le.cons rfl (Le.cons rfl (Le.cons rfl (Le.cons rfl (Le.cons rfl (Le.cons rfl (Le.cons rfl (Le.cons rfl (Le.cons rfl (Le.cons rfl (Le.cons rfl (Le.nil _))))))))))))))))))))))))))))))))))))))))))))))))))))))))))))) hR ?_
              clear hS hR; rintro k6 aa ww hI hS hR; dsimp only [List.cons_append, List.nil_append] at hI hS hR
              refine wp_seq_k ?_; intro K577 hK577
              refine wp_region_lit ?_
              refine sA hS hR (Yld.lss hS rfl rfl) (by decide) ?_; clear hS; intro aa hS
              refine wpList_nil ?_
              refine hK577 _ _ ?_
              refine wp_seq_k ?_; intro K578 hK578
              refine hS.splitB (t := 175) rfl ?_ ?_ <;> clear hS
              · intro hg hS
                have hy := seen3 hL2 hI4.2 (show k6 < sn4.length by omega)
                refine condT hS rfl ?_
                refine wp_skip ?_
                refine hK578 _ _ ?_
                refine wp_seq_k ?_; intro K579 hK579
                refine wp_block ?_
                refine wp_seq_k ?_; intro K580 hK580
                refine wp_region_lit ?_
                refine sA hS hR ((by first | exact Yld.indexL (sz := 1) _ hS rfl rfl Try.underlying42 info4 (by repeat (first | with_reducible exact Pk.here | with_reducible apply Pk.there)) rfl rfl (by omega) | exact Yld.indexB (sz := 1) _ hS rfl rfl Try.underlying42 info4 rfl rfl (by omega) | exact Yld.indexSlice hS rfl rfl Try.underlying42 info4 (by omega) (by omega))) (by decide) ?_; clear hS; intro aa hS
                refine sA hS hR (Yld.load1 hS rfl Try.underlying4 rfl (by first | exact Rd.blk (by repeat (first | with_reducible exact Pk.here | with_reducible apply Pk.there)) (by rfl) | exact Rd.rec (by repeat (first | with_reducible exact Pk.here | with_reducible apply Pk.there)) (by intro _; rfl) (by omega) rfl | exact Rd.rec0 (by repeat (first | with_reducible exact Pk.here | with_reducible apply Pk.there)) (by intro _; rfl) (by omega) rfl | exact Rd.flatJ (by repeat (first | with_reducible exact Pk.here | with_reducible apply Pk.there)) (by intro _; rfl) (by omega) rfl | exact Rd.flat0 (by repeat (first | with_reducible exact Pk.here | with_reducible apply Pk.there)) (by intro _; rfl) (by omega) rfl)) (by decide) ?_; clear hS; intro aa hS
                replace hS := hS.sayB (t := 177) true rfl (by exact hy)
                refine sA hS hR (Yld.assign hS rfl) (by decide) ?_; clear hS; intro aa hS
                refine wpList_nil ?_
                refine hK580 _ _ ?_
                refine wp_seq_k ?_; intro K581 hK581
                refine wp_region_lit ?_
                refine sA hS hR (Yld.move hS rfl) (by decide) ?_; clear hS; intro aa hS
                refine sA hS hR (Yld.not hS rfl) (by decide) ?_; clear hS; intro aa hS
                refine wpList_nil ?_
                refine hK581 _ _ ?_
                refine condF hS rfl ?_
                refine wp_skip ?_
                refine hK579 _ _ ?_
                refine wp_region_lit ?_
                refine sA hS hR ((by first | exact Yld.add64 hS rfl rfl (by omega) | exact Yld.add hS rfl rfl)) (by decide) ?_; clear hS; intro aa hS
                refine sA hS hR (Yld.move hS rfl) (by decide) ?_; clear hS; intro aa hS
                refine wpList_nil ?_
                
                refine ⟨k6 + 1, ?_, ?_, hS.le (Le.cons rfl (Le.nilapp (Le.cons rfl (Le.cons rfl (Le.cons rfl (Le.cons rfl (Le.cons rfl (Le.cons rfl (Le.cons rfl (Le.cons rfl (Le.cons rfl (Le.cons rfl (Le.cons rfl (Le.cons rfl (Le.cons rfl (Le.cons rfl (Le.cons rfl (Le.cons rfl (Le.cons rfl (Le.cons rfl (Le.cons rfl (Le.cons rfl (Le.cons rfl (Le.cons rfl (Le.cons rfl (Le.cons rfl (Le.cons rfl (Le.cons rfl (Le.cons rfl (Le.cons rfl (Le.cons rfl (Le.cons rfl (Le.cons rfl (Le.cons rfl (Le.cons rfl (Le.cons rfl (Le.cons rfl (Le.cons rfl (Le.cons rfl (Le.cons rfl (Le.cons rfl (Le.cons rfl (Le.cons rfl (Le.cons rfl (Le.cons rfl (Le.cons rfl (Le.cons rfl (Le.cons rfl (Le.cons rfl (Le.cons rfl (Le.cons rfl (Le.cons rfl (Le.cons rfl (Le.cons rfl (Le.cons rfl (Le.cons rfl (Le.cons rfl (Le.cons rfl (Le.cons rfl (Le.nil _)))))))))))))))))))))))))))))))))))))))))))))))))))))))))))), hR.sub (Ex.nilapp (by repeat (first | with_reducible exact Ex.refl | (with_reducible apply Ex.take; · repeat (first | with_reducible exact Pk.here | with_reducible apply Pk.there)) | with_reducible apply Ex.drop)))⟩
                · omega
                · omega
              · intro hg hS
                refine condF hS rfl ?_
                refine wp_exit ?_
                refine hK574 _ _ ?_
                refine wp_seq_k ?_; intro K582 hK582
                refine wp_region_lit ?_
                refine sA hS hR (Yld.move hS rfl) (by decide) ?_; clear hS; intro aa hS
                refine sB (Bcall hS rfl Try.call15 (Count_okA (hR.pk (r := arena 57 60 _ _) (by repeat (first | with_reducible exact Pk.here | with_reducible apply Pk.there)))) (by decide) ?_); clear hS; intro aa ww vv hS hp
                clear hR
                obtain ⟨rfl, hR⟩ := hp
                refine sA hS hR (Yld.move hS rfl) (by decide) ?_; clear hS; intro aa hS
                refine sA hS hR (Yld.len hS rfl Try.underlying27) (by decide) ?_; clear hS; intro aa hS
                refine sA hS hR (Yld.neq hS rfl rfl) (by decide) ?_; clear hS; intro aa hS
                replace hS := hS.sayB (t := 185) false rfl (by exact decide_eq_false (by omega))
                refine sA hS hR (Yld.move hS rfl) (by decide) ?_; clear hS; intro aa hS
                refine sAg hS hR rfl rfl (Yld.move hS rfl) (by decide) ?_; clear hS; intro aa hS
                refine sBg hS rfl rfl (Bcall hS rfl Try.call17 (All_okA (hR.pk (r := arena 57 60 _ _) (by repeat (first | with_reducible exact Pk.here | with_reducible apply Pk.there)))) (by decide) ?_); clear hS; intro aa ww vv hS hp
                clear hR
                obtain ⟨ra, ca, rfl, hR⟩ := hp
                refine sAg hS hR rfl rfl (Yld.len hS rfl Try.underlying27) (by decide) ?_; clear hS; intro aa hS
                refine sAg hS hR rfl rfl (Yld.move hS rfl) (by decide) ?_; clear hS; intro aa hS
                refine sAg hS hR rfl rfl (Yld.len hS rfl Try.underlying27) (by decide) ?_; clear hS; intro aa hS
                refine sAg hS hR rfl rfl (Yld.neq hS rfl rfl) (by decide) ?_; clear hS; intro aa hS
                replace hS := hS.sayB (t := 192) false rfl (by exact decide_eq_false (by omega))
                refine sA hS hR (Yld.pickF hS rfl rfl) (by decide) ?_; clear hS; intro aa hS
                refine wpList_nil ?_
                refine hK582 _ _ ?_
                refine condF hS rfl ?_
                refine wp_skip ?_
                refine hK457 _ _ ?_
                refine wp_region_lit ?_
                refine sA hS hR ((by first | exact Yld.add64 hS rfl rfl (by omega) | exact Yld.add hS rfl rfl)) (by decide) ?_; clear hS; intro aa hS
                refine sA hS hR (Yld.move hS rfl) (by decide) ?_; clear hS; intro aa hS
                refine wpList_nil ?_
                
                refine ⟨(j + 1, A2, lv2, gn2, (_, _), (_, _)), ?_, ?_, hS.le (Le.cons rfl (Le.cons rfl (Le.cons rfl (Le.nilapp (Le.cons rfl (Le.cons rfl (Le.cons rfl (Le.cons rfl (Le.nil _))))))))), hR.sub (Ex.take (by repeat (first | with_reducible exact Pk.here | with_reducible apply Pk.there)) (Ex.take (by repeat (first | with_reducible exact Pk.here | with_reducible apply Pk.there)) (Ex.take (by repeat (first | with_reducible exact Pk.here | with_reducible apply Pk.there)) (Ex.nilapp (by repeat (first | with_reducible exact Ex.refl | (with_reducible apply Ex.take; · repeat (first | with_reducible exact Pk.here | with_reducible apply Pk.there)) | with_reducible apply Ex.drop))))))⟩
                · dsimp only; exact ⟨by omega, hL2, hG2, hgl2⟩
                · dsimp only; omega
      · intro hg hS
        refine condF hS rfl ?_
        refine wp_seq_k ?_; intro K583 hK583
        refine wp_region_lit ?_
        refine sA hS hR (Yld.move hS rfl) (by decide) ?_; clear hS; intro aa hS
        refine sA hS hR ((by first | exact Yld.to (Yld.quo hS rfl rfl (by omega)) (congrArg (Value.int .u8) (IntWalk.u8_quo _ _ (by omega))) | exact Yld.quo hS rfl rfl (by omega))) (by decide) ?_; clear hS; intro aa hS
        refine sA hS hR ((by first | exact Yld.to (Yld.convInt hS rfl rfl Try.underlying3) (congrArg (Value.int .i64) (IntWalk.i64_in _ (by omega))) | exact Yld.convInt hS rfl rfl Try.underlying3)) (by decide) ?_; clear hS; intro aa hS
        refine sA hS hR (Yld.move hS rfl) (by decide) ?_; clear hS; intro aa hS
        refine sA hS hR (Yld.len hS rfl Try.underlying27) (by decide) ?_; clear hS; intro aa hS
        refine sA hS hR ((by first | exact Yld.rem64 hS rfl rfl (by omega) | exact Yld.rem hS rfl rfl (by omega))) (by decide) ?_; clear hS; intro aa hS
        obtain ⟨kk, hkk, hkl⟩ := emod_nat (n := s0 / 2) (d := (live.length : Int)) rfl (by omega)
        replace hS := hS.say (t := 88) (.int .i64 (kk : Int)) rfl (by rw [hkk])
        have hlc := (hR.pk (r := sls r1 _ _ _ _ _) (by repeat (first | with_reducible exact Pk.here | with_reducible apply Pk.there))).slsLe.1
        refine sA hS hR (Yld.assign hS rfl) (by decide) ?_; clear hS; intro aa hS
        refine wpList_nil ?_
        refine hK583 _ _ ?_
        refine wp_seq_k ?_; intro K584 hK584
        refine wp_seq_k ?_; intro K585 hK585
        refine wp_region_lit ?_
        refine sA hS hR (Yld.move hS rfl) (by decide) ?_; clear hS; intro aa hS
        refine sA hS hR (Yld.move hS rfl) (by decide) ?_; clear hS; intro aa hS
        refine sA hS hR (Yld.move hS rfl) (by decide) ?_; clear hS; intro aa hS
        refine sA hS hR ((by first | exact Yld.indexL (sz := 2) _ hS rfl rfl Try.underlying27 info29 (by repeat (first | with_reducible exact Pk.here | with_reducible apply Pk.there)) rfl rfl (by omega) | exact Yld.indexB (sz := 2) _ hS rfl rfl Try.underlying27 info29 rfl rfl (by omega) | exact Yld.indexSlice hS rfl rfl Try.underlying27 info29 (by omega) (by omega))) (by decide) ?_; clear hS; intro aa hS
        refine sA hS hR (Yld.loadAgg hS rfl Try.underlying29 rfl info29 (by first | exact Rds.cons (Rd.blk (by repeat (first | with_reducible exact Pk.here | with_reducible apply Pk.there)) (by rfl)) (Rds.cons (Rd.blk (by repeat (first | with_reducible exact Pk.here | with_reducible apply Pk.there)) (by rfl)) (Rds.nil)) | exact Rds.rec (by repeat (first | with_reducible exact Pk.here | with_reducible apply Pk.there)) (by intro _; rfl) (by omega) | exact Rds.flat1 (by repeat (first | with_reducible exact Pk.here | with_reducible apply Pk.there)) (by intro _; rfl) (by omega)) (by rfl)) (by decide) ?_; clear hS; intro aa hS
        refine sB (Bcall hS rfl Try.call11 (Give_okA (hR.pk (r := arena 57 60 _ _) (by repeat (first | with_reducible exact Pk.here | with_reducible apply Pk.there)))) (by decide) ?_); clear hS; intro aa ww vv hS hp
        clear hR
        obtain ⟨rfl, hR⟩ := hp
        obtain ⟨hat, hL2⟩ := hLv.give hkl
        have hG2 := hGn.give hLv.ok (by omega) hat
        rw [giveE_yes hat] at hS
        refine sA hS hR (Yld.neq hS rfl rfl) (by decide) ?_; clear hS; intro aa hS
        replace hS := hS.sayB (t := 95) false rfl (by simp)
        refine wpList_nil ?_
        refine hK585 _ _ ?_
        refine condF hS rfl ?_
        refine wp_skip ?_
        refine hK584 _ _ ?_
        refine wp_seq_k ?_; intro K586 hK586
        refine wp_region_lit ?_
        refine sA hS hR (Yld.move hS rfl) (by decide) ?_; clear hS; intro aa hS
        refine sA hS hR (Yld.move hS rfl) (by decide) ?_; clear hS; intro aa hS
        refine sA hS hR (Yld.move hS rfl) (by decide) ?_; clear hS; intro aa hS
        refine sA hS hR ((by first | exact Yld.indexL (sz := 2) _ hS rfl rfl Try.underlying27 info29 (by repeat (first | with_reducible exact Pk.here | with_reducible apply Pk.there)) rfl rfl (by omega) | exact Yld.indexB (sz := 2) _ hS rfl rfl Try.underlying27 info29 rfl rfl (by omega) | exact Yld.indexSlice hS rfl rfl Try.underlying27 info29 (by omega) (by omega))) (by decide) ?_; clear hS; intro aa hS
        refine sA hS hR (Yld.loadAgg hS rfl Try.underlying29 rfl info29 (by first | exact Rds.cons (Rd.blk (by repeat (first | with_reducible exact Pk.here | with_reducible apply Pk.there)) (by rfl)) (Rds.cons (Rd.blk (by repeat (first | with_reducible exact Pk.here | with_reducible apply Pk.there)) (by rfl)) (Rds.nil)) | exact Rds.rec (by repeat (first | with_reducible exact Pk.here | with_reducible apply Pk.there)) (by intro _; rfl) (by omega) | exact Rds.flat1 (by repeat (first | with_reducible exact Pk.here | with_reducible apply Pk.there)) (by intro _; rfl) (by omega)) (by rfl)) (by decide) ?_; clear hS; intro aa hS
        refine sB (BbuildSlice hS hR rfl (bls27_1_0 _ _) (by decide) ?_); clear hS hR; intro aa ww bb101 hS hR
        refine sB (BappendR (sz := 2) hS hR rfl rfl Try.underlying27 info29 rfl rfl (by rfl) (by repeat (first | with_reducible exact Pk.here | with_reducible apply Pk.there)) (XC.one (live[kk]) (by repeat (first | with_reducible exact Pk.here | with_reducible apply Pk.there)) (by rfl) rfl) (by intro _; rfl) (by show (_ + _) * 16 ≤ _; first | omega | (simp only [List.length_take, List.length_append, List.length_drop, List.length_cons, List.length_nil, List.length_map]; omega)) (by first | omega | (simp only [List.length_take, List.length_append, List.length_drop, List.length_cons, List.length_nil, List.length_map]; omega)) (by first | rfl | (simp; done) | (simp; omega)) (by decide) ?_); clear hS hR; intro aa ww r102 c102 hS hR
        refine sA hS hR (Yld.assign hS rfl) (by decide) ?_; clear hS; intro aa hS
        refine wpList_nil ?_
        refine hK586 _ _ ?_
        refine drawn (by kernel_rfl) hR Ex.refl ?_; clear hR; intro ww hR hR0
        refine dA 1 rfl (by kernel_rfl) (by kernel_rfl) (by kernel_rfl) (fun _ _ _ h => h) hS hR0 (Yld.move hS rfl) (by decide) ?_; clear hS; intro aa hS
        refine dA 2 rfl (by kernel_rfl) (by kernel_rfl) (by kernel_rfl) (fun _ _ _ h => h) hS hR0 (Yld.move hS rfl) (by decide) ?_; clear hS; intro aa hS
        refine dA 3 rfl (by kernel_rfl) (by kernel_rfl) (by kernel_rfl) (fun _ _ _ h => h) hS hR0 (Yld.sliceHi hS rfl rfl Try.underlying27 info29 (by omega) (by omega)) (by decide) ?_; clear hS; intro aa hS
        refine dA 5 rfl (by kernel_rfl) (by kernel_rfl) (by kernel_rfl) (fun _ _ _ h => h) hS hR0 (Yld.move hS rfl) (by decide) ?_; clear hS; intro aa hS
        refine dA 6 rfl (by kernel_rfl) (by kernel_rfl) (by kernel_rfl) (fun _ _ _ h => h) hS hR0 (Yld.move hS rfl) (by decide) ?_; clear hS; intro aa hS
        refine dA 7 rfl (by kernel_rfl) (by kernel_rfl) (by kernel_rfl) (fun _ _ _ h => h) hS hR0 ((by first | exact Yld.add64 hS rfl rfl (by omega) | exact Yld.add hS rfl rfl)) (by decide) ?_; clear hS; intro aa hS
        refine dA 8 rfl (by kernel_rfl) (by kernel_rfl) (by kernel_rfl) (fun _ _ _ h => h) hS hR0 (Yld.sliceLo hS rfl rfl Try.underlying27 info29 (by omega) (by omega)) (by decide) ?_; clear hS; intro aa hS
        refine dOne (i := 0) (by kernel_rfl) ?_
        refine dop rfl (BbuildSlice hS hR rfl (bls27_0_) (by decide) ?_); clear hS hR hR0; intro aa ww bb103 hS hR
        refine dnext (hR.sub (by repeat (first | with_reducible exact Ex.refl | (with_reducible apply Ex.take; · repeat (first | with_reducible exact Pk.here | with_reducible apply Pk.there)) | with_reducible apply Ex.drop))) ?_; intro hR0
        replace hR := hR.pk (r := blk bb103 _ _) (by repeat (first | with_reducible exact Pk.here | with_reducible apply Pk.there))
        replace hR := Sep.toRecs (m := 0) (sz := 2) (enc := e2) (([] : List (Int × Int))) hR rfl (by intro _; rfl) rfl
        refine dOne (i := 4) (by kernel_rfl) ?_
        refine dop rfl (BappendR (sz := 2) hS hR rfl rfl Try.underlying27 info29 rfl rfl (by rfl) (by repeat (first | with_reducible exact Pk.here | with_reducible apply Pk.there)) (XC.upto (by repeat (first | with_reducible exact Pk.here | with_reducible apply Pk.there)) (by intro _; rfl) (by omega)) (by intro _; rfl) (by show (_ + _) * 16 ≤ _; first | omega | (simp only [List.length_take, List.length_append, List.length_drop, List.length_cons, List.length_nil, List.length_map]; omega)) (by first | omega | (simp only [List.length_take, List.length_append, List.length_drop, List.length_cons, List.length_nil, List.length_map]; omega)) (by first | rfl | (simp; done) | (simp; omega)) (by decide) ?_); clear hS hR hR0; intro aa ww r107 c107 hS hR
        refine dnext (hR.sub (by repeat (first | with_reducible exact Ex.refl | (with_reducible apply Ex.take; · repeat (first | with_reducible exact Pk.here | with_reducible apply Pk.there)) | with_reducible apply Ex.drop))) ?_; intro hR0
        simp only [List.nil_append, Int.toNat_natCast] at hS hR
        refine dOne (i := 9) (by kernel_rfl) ?_
        refine dop rfl (BappendR (sz := 2) hS hR rfl rfl Try.underlying27 info29 rfl rfl (by rfl) (by repeat (first | with_reducible exact Pk.here | with_reducible apply Pk.there)) (XC.part (r := r1) (lo := ((kk : Int) + 1).toNat) (by repeat (first | with_reducible exact Pk.here | with_reducible apply Pk.there)) (by intro _; rfl) (by rfl) (by omega)) (by intro _; rfl) (by show (_ + _) * 16 ≤ _; first | omega | (simp only [List.length_take, List.length_append, List.length_drop, List.length_cons, List.length_nil, List.length_map]; omega)) (by first | omega | (simp only [List.length_take, List.length_append, List.length_drop, List.length_cons, List.length_nil, List.length_map]; omega)) (by first | rfl | (simp; done) | (simp; omega)) (by decide) ?_); clear hS hR hR0; intro aa ww r112 c112 hS hR
        refine dnext (hR.sub (by repeat (first | with_reducible exact Ex.refl | (with_reducible apply Ex.take; · repeat (first | with_reducible exact Pk.here | with_reducible apply Pk.there)) | with_reducible apply Ex.drop))) ?_; intro hR0
        have hcut : live.take kk ++ (live.drop ((kk : Int) + 1).toNat).take (live.length - ((kk : Int) + 1).toNat) = live.take kk ++ live.drop (kk + 1) := by rw [show ((kk : Int) + 1).toNat = kk + 1 from by omega, List.take_of_length_le (show (live.drop (kk + 1)).length ≤ live.length - (kk + 1) by simp)]
        rw [hcut] at hS hR
        have hgeta : gone ++ [live[kk]] = gone ++ [(live[kk].1, live[kk].2)] := rfl
        rw [hgeta] at hS hR
        obtain ⟨A2, hA2⟩ : ∃ x, A.giveH live[kk].1 live[kk].2 = x := ⟨_, rfl⟩
        obtain ⟨lv2, hl2⟩ : ∃ x, live.take kk ++ live.drop (kk + 1) = x := ⟨_, rfl⟩
        obtain ⟨gn2, hg2⟩ : ∃ x, gone ++ [(live[kk].1, live[kk].2)] = x := ⟨_, rfl⟩
        have hgl2 : gn2.length ≤ j + 1 := by rw [← hg2]; (try simp only [List.length_append, List.length_singleton]); omega
        rw [hA2] at hR hL2 hG2
        rw [hl2] at hR hS hL2
        rw [hg2] at hR hS hG2
        have hcnt := hL2.count
        have hall2 := hL2.all
        have hfl2 : A2.frees.length = A2.free.length := List.length_map _
        refine dA 10 rfl (by kernel_rfl) (by kernel_rfl) (by kernel_rfl) (fun _ _ _ h => h) hS hR0 (Yld.assign hS rfl) (by decide) ?_; clear hS; intro aa hS
        refine wpAnyH_done (by kernel_rfl) ?_ _; clear hR0
        refine hK459 _ _ ?_
        refine wp_seq_k ?_; intro K587 hK587
        refine wp_region_lit ?_
        refine sA hS hR (Yld.move hS rfl) (by decide) ?_; clear hS; intro aa hS
        refine sB (Bmake (zc := [.bool false]) hS hR rfl rfl Try.underlying42 info4 rfl (by rfl) (by rfl) (by decide) (by omega) (by show ((1 : Nat) : Int) * _ ≤ _; omega) (by omega) (by decide) ?_); clear hS hR; intro aa ww bb114 hS hR
        replace hR := hR.pk (r := blk bb114 _ _) (by repeat (first | with_reducible exact Pk.here | with_reducible apply Pk.there))
        replace hR := Sep.toRecs (m := m) (sz := 1) (enc := eb) (List.replicate m false) hR (by rw [Int.toNat_natCast]; exact zeros_flat (zc := [.bool false]) false m rfl) (by intro _; rfl) (by simp)
        replace hS := hS.say (t := 114) (.slice (some ⟨bb114, 0, none⟩) m m) rfl (by rw [Int.toNat_natCast])
        refine sA hS hR (Yld.assign hS rfl) (by decide) ?_; clear hS; intro aa hS
        refine wpList_nil ?_
        refine hK587 _ _ ?_
        refine wp_seq_k ?_; intro K588 hK588
        refine wp_seq_k ?_; intro K589 hK589
        refine wp_region_lit ?_
        refine sA hS hR (Yld.move hS rfl) (by decide) ?_; clear hS; intro aa hS
        refine sA hS hR (Yld.len hS rfl Try.underlying27) (by decide) ?_; clear hS; intro aa hS
        refine sA hS hR (Yld.move hS rfl) (by decide) ?_; clear hS; intro aa hS
        refine wpList_nil ?_
        refine hK589 _ _ ?_
        refine wp_block ?_
        replace hR := hR.pk (r := sls (some ⟨bb114, 0, none⟩) m m 4 1 ((List.replicate m false).flatMap eb)) (by repeat (first | with_reducible exact Pk.here | with_reducible apply Pk.there))
        refine loopI (X := Nat × List Bool) [(5, _), (6, _), (8, _), (9, _), (11, _), (14, _), (15, _), (43, _), (44, _), (45, _), (46, _), (47, _), (48, _), (49, _), (50, _), (51, _), (52, _), (53, _), (54, _), (55, _), (56, _), (83, _), (84, _), (85, _), (86, _), (87, _), (88, _), (89, _), (90, _), (91, _), (92, _), (93, _), (94, _), (95, _), (96, _), (97, _), (98, _), (99, _), (100, _), (101, _), (102, _), (103, _), (104, _), (105, _), (106, _), (107, _), (108, _), (109, _), (110, _), (111, _), (112, _), (113, _), (114, _), (115, _), (116, _)] (fun x => [(117, .int .i64 (x.1 : Int))]) (fun x => [sls (some ⟨bb114, 0, none⟩) m m 4 1 (x.2.flatMap eb)]) _ (fun x => x.1 ≤ lv2.length ∧ Seen x.2 m (P1 lv2 x.1)) (fun x => lv2.length - x.1) (0, List.replicate m false) ⟨Nat.zero_le _, (Seen.none m).mono (fun i _ => by simp [P1])⟩ (hS.le (Le.cons rfl (Le.nilapp (Le.cons rfl (Le.cons rfl (Le.cons rfl (Le.cons rfl (Le.cons rfl (Le.cons rfl (Le.cons rfl (Le.cons rfl (Le.cons rfl (Le.cons rfl (Le.cons rfl (Le.cons rfl (Le.cons rfl (Le.cons rfl (Le.cons rfl (Le.cons rfl (Le.cons rfl (Le.cons rfl (Le.cons rfl (Le.cons rfl (Le.cons rfl (Le.cons rfl (Le.cons rfl (Le.cons rfl (Le.cons rfl (Le.cons rfl (Le.cons rfl (Le.cons rfl (Le.cons rfl (Le.cons rfl (Le.cons rfl (Le.cons rfl (Le.cons rfl (Le.cons rfl (Le.cons rfl (Le.cons rfl (Le.cons rfl (Le.cons rfl (Le.cons rfl (Le.cons rfl (Le.cons rfl (Le.cons rfl (Le.cons rfl (Le.cons rfl (Le.cons rfl (Le.cons rfl (Le.cons rfl (Le.cons rfl (Le.cons rfl (Le.cons rfl (Le.cons rfl (Le.cons rfl (Le.cons rfl (Le.cons rfl (Le.cons rfl (Le.nil _))))))))))))))))))))))))))))))))))))))))))))))))))))))))))) hR ?_
        clear hS hR; rintro ⟨j2, sn⟩ aa ww hI hS hR; dsimp only [List.cons_append, List.nil_append] at hI hS hR
        have hsl := hI.2.1
        refine wp_seq_k ?_; intro K591 hK591
        refine wp_region_lit ?_
        refine sA hS hR (Yld.lss hS rfl rfl) (by decide) ?_; clear hS; intro aa hS
        refine wpList_nil ?_
        refine hK591 _ _ ?_
        refine wp_seq_k ?_; intro K592 hK592
        refine hS.splitB (t := 118) rfl ?_ ?_ <;> clear hS
        · intro hg hS
          obtain ⟨k, hk, hkn, hkl2, hno, hset, hat⟩ := seen1 hL2 (show j2 < lv2.length by omega) hI.2
          refine condT hS rfl ?_
          refine wp_skip ?_
          refine hK592 _ _ ?_
          refine wp_seq_k ?_; intro K593 hK593
          refine wp_block ?_
          refine wp_seq_k ?_; intro K594 hK594
          refine wp_region_lit ?_
          refine sA hS hR ((by first | exact Yld.indexL (sz := 2) _ hS rfl rfl Try.underlying27 info29 (by repeat (first | with_reducible exact Pk.here | with_reducible apply Pk.there)) rfl rfl (by omega) | exact Yld.indexB (sz := 2) _ hS rfl rfl Try.underlying27 info29 rfl rfl (by omega) | exact Yld.indexSlice hS rfl rfl Try.underlying27 info29 (by omega) (by omega))) (by decide) ?_; clear hS; intro aa hS
          refine sA hS hR (Yld.loadAgg hS rfl Try.underlying29 rfl info29 (by first | exact Rds.cons (Rd.blk (by repeat (first | with_reducible exact Pk.here | with_reducible apply Pk.there)) (by rfl)) (Rds.cons (Rd.blk (by repeat (first | with_reducible exact Pk.here | with_reducible apply Pk.there)) (by rfl)) (Rds.nil)) | exact Rds.rec (by repeat (first | with_reducible exact Pk.here | with_reducible apply Pk.there)) (by intro _; rfl) (by omega) | exact Rds.flat1 (by repeat (first | with_reducible exact Pk.here | with_reducible apply Pk.there)) (by intro _; rfl) (by omega)) (by rfl)) (by decide) ?_; clear hS; intro aa hS
          refine sB (Balloc hS hR info29 (by rfl) (by rfl) (by decide) ?_); clear hS hR; intro aa ww bb17 hS hR
          refine sB (Bstore hS hR rfl rfl (by rfl) info29 (by rfl) (by repeat (first | with_reducible exact Pk.here | with_reducible apply Pk.there)) (by rfl) (Nat.le_of_ble_eq_true rfl) ?_); clear hR; intro ww hR
          refine wpList_nil ?_
          refine hK594 _ _ ?_
          refine wp_seq_k ?_; intro K595 hK595
          refine wp_seq_k ?_; intro K596 hK596
          refine wp_region_lit ?_
          refine sA hS hR (Yld.fieldAddr hS rfl 0 Try.underlying29 rfl rfl info3 (by decide)) (by decide) ?_; clear hS; intro aa hS
          refine sA hS hR (Yld.load1 hS rfl Try.underlying3 rfl (by first | exact Rd.blk (by repeat (first | with_reducible exact Pk.here | with_reducible apply Pk.there)) (by rfl) | exact Rd.rec (by repeat (first | with_reducible exact Pk.here | with_reducible apply Pk.there)) (by intro _; rfl) (by omega) rfl | exact Rd.rec0 (by repeat (first | with_reducible exact Pk.here | with_reducible apply Pk.there)) (by intro _; rfl) (by omega) rfl | exact Rd.flatJ (by repeat (first | with_reducible exact Pk.here | with_reducible apply Pk.there)) (by intro _; rfl) (by omega) rfl | exact Rd.flat0 (by repeat (first | with_reducible exact Pk.here | with_reducible apply Pk.there)) (by intro _; rfl) (by omega) rfl)) (by decide) ?_; clear hS; intro aa hS
          refine sA hS hR (Yld.lss hS rfl rfl) (by decide) ?_; clear hS; intro aa hS
          replace hS := hS.sayB (t := 123) false rfl (by exact decide_eq_false (by omega))
          refine sA hS hR (Yld.move hS rfl) (by decide) ?_; clear hS; intro aa hS
          refine sAg hS hR rfl rfl (Yld.fieldAddr hS rfl 0 Try.underlying29 rfl rfl info3 (by decide)) (by decide) ?_; clear hS; intro aa hS
          refine sAg hS hR rfl rfl (Yld.load1 hS rfl Try.underlying3 rfl (by first | exact Rd.blk (by repeat (first | with_reducible exact Pk.here | with_reducible apply Pk.there)) (by rfl) | exact Rd.rec (by repeat (first | with_reducible exact Pk.here | with_reducible apply Pk.there)) (by intro _; rfl) (by omega) rfl | exact Rd.rec0 (by repeat (first | with_reducible exact Pk.here | with_reducible apply Pk.there)) (by intro _; rfl) (by omega) rfl | exact Rd.flatJ (by repeat (first | with_reducible exact Pk.here | with_reducible apply Pk.there)) (by intro _; rfl) (by omega) rfl | exact Rd.flat0 (by repeat (first | with_reducible exact Pk.here | with_reducible apply Pk.there)) (by intro _; rfl) (by omega) rfl)) (by decide) ?_; clear hS; intro aa hS
          refine sAg hS hR rfl rfl (Yld.move hS rfl) (by decide) ?_; clear hS; intro aa hS
          refine sAg hS hR rfl rfl (Yld.geq hS rfl rfl) (by decide) ?_; clear hS; intro aa hS
          replace hS := hS.sayB (t := 128) false rfl (by exact decide_eq_false (by omega))
          refine sA hS hR (Yld.pickF hS rfl rfl) (by decide) ?_; clear hS; intro aa hS
          refine sA hS hR (Yld.move hS rfl) (by decide) ?_; clear hS; intro aa hS
          refine sAg hS hR rfl rfl (Yld.move hS rfl) (by decide) ?_; clear hS; intro aa hS
          refine sAg hS hR rfl rfl (Yld.fieldAddr hS rfl 0 Try.underlying29 rfl rfl info3 (by decide)) (by decide) ?_; clear hS; intro aa hS
          refine sAg hS hR rfl rfl (Yld.load1 hS rfl Try.underlying3 rfl (by first | exact Rd.blk (by repeat (first | with_reducible exact Pk.here | with_reducible apply Pk.there)) (by rfl) | exact Rd.rec (by repeat (first | with_reducible exact Pk.here | with_reducible apply Pk.there)) (by intro _; rfl) (by omega) rfl | exact Rd.rec0 (by repeat (first | with_reducible exact Pk.here | with_reducible apply Pk.there)) (by intro _; rfl) (by omega) rfl | exact Rd.flatJ (by repeat (first | with_reducible exact Pk.here | with_reducible apply Pk.there)) (by intro _; rfl) (by omega) rfl | exact Rd.flat0 (by repeat (first | with_reducible exact Pk.here | with_reducible apply Pk.there)) (by intro _; rfl) (by omega) rfl)) (by decide) ?_; clear hS; intro aa hS
          refine sAg hS hR rfl rfl ((by first | exact Yld.indexL (sz := 1) (k) hS rfl rfl Try.underlying42 info4 (by repeat (first | with_reducible exact Pk.here | with_reducible apply Pk.there)) rfl (by first | rfl | omega) (by omega) | exact Yld.indexB (sz := 1) (k) hS rfl rfl Try.underlying42 info4 rfl (by first | rfl | omega) (by omega))) (by decide) ?_; clear hS; intro aa hS
          refine sAg hS hR rfl rfl (Yld.load1 hS rfl Try.underlying4 rfl (by first | exact Rd.blk (by repeat (first | with_reducible exact Pk.here | with_reducible apply Pk.there)) (by rfl) | exact Rd.rec (by repeat (first | with_reducible exact Pk.here | with_reducible apply Pk.there)) (by intro _; rfl) (by omega) rfl | exact Rd.rec0 (by repeat (first | with_reducible exact Pk.here | with_reducible apply Pk.there)) (by intro _; rfl) (by omega) rfl | exact Rd.flatJ (by repeat (first | with_reducible exact Pk.here | with_reducible apply Pk.there)) (by intro _; rfl) (by omega) rfl | exact Rd.flat0 (by repeat (first | with_reducible exact Pk.here | with_reducible apply Pk.there)) (by intro _; rfl) (by omega) rfl)) (by decide) ?_; clear hS; intro aa hS
          replace hS := hS.sayB (t := 135) false rfl (by exact hno _)
          refine sA hS hR (Yld.pickF hS rfl rfl) (by decide) ?_; clear hS; intro aa hS
          refine sA hS hR (Yld.move hS rfl) (by decide) ?_; clear hS; intro aa hS
          refine sAg hS hR rfl rfl (Yld.move hS rfl) (by decide) ?_; clear hS; intro aa hS
          refine sAg hS hR rfl rfl (Yld.loadAgg hS rfl Try.underlying29 rfl info29 (by first | exact Rds.cons (Rd.blk (by repeat (first | with_reducible exact Pk.here | with_reducible apply Pk.there)) (by rfl)) (Rds.cons (Rd.blk (by repeat (first | with_reducible exact Pk.here | with_reducible apply Pk.there)) (by rfl)) (Rds.nil)) | exact Rds.rec (by repeat (first | with_reducible exact Pk.here | with_reducible apply Pk.there)) (by intro _; rfl) (by omega) | exact Rds.flat1 (by repeat (first | with_reducible exact Pk.here | with_reducible apply Pk.there)) (by intro _; rfl) (by omega)) (by rfl)) (by decide) ?_; clear hS; intro aa hS
          refine sBg hS rfl rfl (Bcall hS rfl Try.call13 (Live_okA (hR.pk (r := arena 57 60 _ _) (by repeat (first | with_reducible exact Pk.here | with_reducible apply Pk.there)))) (by decide) ?_); clear hS; intro aa ww vv hS hp
          clear hR
          obtain ⟨rfl, hR⟩ := hp
          replace hS := hS.sayB (t := 140) true rfl (by exact decide_eq_true hat)
          refine sAg hS hR rfl rfl (Yld.not hS rfl) (by decide) ?_; clear hS; intro aa hS
          refine sA hS hR (Yld.pickF hS rfl rfl) (by decide) ?_; clear hS; intro aa hS
          refine wpList_nil ?_
          refine hK596 _ _ ?_
          refine condF hS rfl ?_
          refine wp_skip ?_
          refine hK595 _ _ ?_
          refine wp_region_lit ?_
          refine sA hS hR (Yld.move hS rfl) (by decide) ?_; clear hS; intro aa hS
          refine sA hS hR (Yld.fieldAddr hS rfl 0 Try.underlying29 rfl rfl info3 (by decide)) (by decide) ?_; clear hS; intro aa hS
          refine sA hS hR (Yld.load1 hS rfl Try.underlying3 rfl (by first | exact Rd.blk (by repeat (first | with_reducible exact Pk.here | with_reducible apply Pk.there)) (by rfl) | exact Rd.rec (by repeat (first | with_reducible exact Pk.here | with_reducible apply Pk.there)) (by intro _; rfl) (by omega) rfl | exact Rd.rec0 (by repeat (first | with_reducible exact Pk.here | with_reducible apply Pk.there)) (by intro _; rfl) (by omega) rfl | exact Rd.flatJ (by repeat (first | with_reducible exact Pk.here | with_reducible apply Pk.there)) (by intro _; rfl) (by omega) rfl | exact Rd.flat0 (by repeat (first | with_reducible exact Pk.here | with_reducible apply Pk.there)) (by intro _; rfl) (by omega) rfl)) (by decide) ?_; clear hS; intro aa hS
          refine sA hS hR ((by first | exact Yld.indexL (sz := 1) (k) hS rfl rfl Try.underlying42 info4 (by repeat (first | with_reducible exact Pk.here | with_reducible apply Pk.there)) rfl (by first | rfl | omega) (by omega) | exact Yld.indexB (sz := 1) (k) hS rfl rfl Try.underlying42 info4 rfl (by first | rfl | omega) (by omega))) (by decide) ?_; clear hS; intro aa hS
          refine sB (BstoreR0 (true) hS hR rfl rfl (by rfl) info4 (by rfl) (by repeat (first | with_reducible exact Pk.here | with_reducible apply Pk.there)) (by rfl) (by intro _; rfl) (by omega) (Nat.le_of_ble_eq_true rfl) (Nat.le_of_ble_eq_true rfl) (by rfl) ?_); clear hR; intro ww hR
          refine wpList_nil ?_
          refine hK593 _ _ ?_
          refine wp_region_lit ?_
          refine sA hS hR ((by first | exact Yld.add64 hS rfl rfl (by omega) | exact Yld.add hS rfl rfl)) (by decide) ?_; clear hS; intro aa hS
          refine sA hS hR (Yld.move hS rfl) (by decide) ?_; clear hS; intro aa hS
          refine wpList_nil ?_
          
          refine ⟨(j2 + 1, _), ?_, ?_, hS.le (Le.cons rfl (Le.nilapp (Le.cons rfl (Le.cons rfl (Le.cons rfl (Le.cons rfl (Le.cons rfl (Le.cons rfl (Le.cons rfl (Le.cons rfl (Le.cons rfl (Le.cons rfl (Le.cons rfl (Le.cons rfl (Le.cons rfl (Le.cons rfl (Le.cons rfl (Le.cons rfl (Le.cons rfl (Le.cons rfl (Le.cons rfl (Le.cons rfl (Le.cons rfl (Le.cons rfl (Le.cons rfl (Le.cons rfl (Le.cons rfl (Le.cons rfl (Le.cons rfl (Le.cons rfl (Le.cons rfl (Le.cons rfl (Le.cons rfl (Le.cons rfl (Le.cons rfl (Le.cons rfl (Le.cons rfl (Le.cons rfl (Le.cons rfl (Le.cons rfl (Le.cons rfl (Le.cons rfl (Le.cons rfl (Le.cons rfl (Le.cons rfl (Le.cons rfl (Le.cons rfl (Le.cons rfl (Le.cons rfl (Le.cons rfl (Le.cons rfl (Le.cons rfl (Le.cons rfl (Le.cons rfl (Le.cons rfl (Le.cons rfl (Le.cons rfl (Le.nil _)))))))))))))))))))))))))))))))))))))))))))))))))))))))))), hR.sub (Ex.take (by repeat (first | with_reducible exact Pk.here | with_reducible apply Pk.there)) (Ex.nilapp (by repeat (first | with_reducible exact Ex.refl | (with_reducible apply Ex.take; · repeat (first | with_reducible exact Pk.here | with_reducible apply Pk.there)) | with_reducible apply Ex.drop))))⟩
          · dsimp only; exact ⟨by omega, hset⟩
          · dsimp only; omega
        · intro hg hS
          have hSn : Seen sn m (P2 lv2 A2.free 0) := by
            have h9 := hI.2
            rw [show j2 = lv2.length by omega] at h9
            exact seen1_all h9
          refine condF hS rfl ?_
          refine wp_exit ?_
          refine hK588 _ _ ?_
          refine wp_seq_k ?_; intro K597 hK597
          refine wp_seq_k ?_; intro K598 hK598
          refine wp_region_lit ?_
          refine sA hS hR (Yld.move hS rfl) (by decide) ?_; clear hS; intro aa hS
          refine sB (Bcall hS rfl Try.call14 (Free_okA (hR.pk (r := arena 57 60 _ _) (by repeat (first | with_reducible exact Pk.here | with_reducible apply Pk.there)))) (by decide) ?_); clear hS; intro aa ww vv hS hp
          clear hR
          obtain ⟨rf, cf, rfl, hR⟩ := hp
          rw [← hfl2] at hR hS
          refine sA hS hR (Yld.len hS rfl Try.underlying36) (by decide) ?_; clear hS; intro aa hS
          refine sA hS hR (Yld.move hS rfl) (by decide) ?_; clear hS; intro aa hS
          refine wpList_nil ?_
          refine hK598 _ _ ?_
          refine wp_block ?_
          replace hR := hR.pk (r := sls (some ⟨bb114, 0, none⟩) m m 4 1 (sn.flatMap eb)) (by repeat (first | with_reducible exact Pk.here | with_reducible apply Pk.there))
          refine loopI (X := Nat × List Bool) [(5, _), (6, _), (8, _), (9, _), (11, _), (14, _), (15, _), (43, _), (44, _), (45, _), (46, _), (47, _), (48, _), (49, _), (50, _), (51, _), (52, _), (53, _), (54, _), (55, _), (56, _), (83, _), (84, _), (85, _), (86, _), (87, _), (88, _), (89, _), (90, _), (91, _), (92, _), (93, _), (94, _), (95, _), (96, _), (97, _), (98, _), (99, _), (100, _), (101, _), (102, _), (103, _), (104, _), (105, _), (106, _), (107, _), (108, _), (109, _), (110, _), (111, _), (112, _), (113, _), (114, _), (115, _), (116, _), (117, _), (118, _), (148, _), (149, _), (150, _)] (fun x => [(151, .int .i64 (x.1 : Int))]) (fun x => [sls (some ⟨bb114, 0, none⟩) m m 4 1 (x.2.flatMap eb)]) _ (fun x => x.1 ≤ A2.free.length ∧ Seen x.2 m (P2 lv2 A2.free x.1)) (fun x => A2.free.length - x.1) (0, sn) ⟨Nat.zero_le _, hSn⟩ (hS.le (Le.cons rfl (Le.nilapp (Le.cons rfl (Le.cons rfl (Le.cons rfl (Le.cons rfl (Le.cons rfl (Le.cons rfl (Le.cons rfl (Le.cons rfl (Le.cons rfl (Le.cons rfl (Le.cons rfl (Le.cons rfl (Le.cons rfl (Le.cons rfl (Le.cons rfl (Le.cons rfl (Le.cons rfl (Le.cons rfl (Le.cons rfl (Le.cons rfl (Le.cons rfl (Le.cons rfl (Le.cons rfl (Le.cons rfl (Le.cons rfl (Le.cons rfl (Le.cons rfl (Le.cons rfl (Le.cons rfl (Le.cons rfl (Le.cons rfl (Le.cons rfl (Le.cons rfl (Le.cons rfl (Le.cons rfl (Le.cons rfl (Le.cons rfl (Le.cons rfl (Le.cons rfl (Le.cons rfl (Le.cons rfl (Le.cons rfl (Le.cons rfl (Le.cons rfl (Le.cons rfl (Le.cons rfl (Le.cons rfl (Le.cons rfl (Le.cons rfl (Le.cons rfl (Le.cons rfl (Le.cons rfl (Le.cons rfl (Le.cons rfl (Le.cons rfl (Le.cons rfl (Le.cons rfl (Le.cons rfl (Le.cons rfl (Le.cons rfl (Le.nil _)))))))))))))))))))))))))))))))))))))))))))))))))))))))))))))))) hR ?_
          clear hS hR; rintro ⟨j4, sn4⟩ aa ww hI hS hR; dsimp only [List.cons_append, List.nil_append] at hI hS hR
          have hsl4 := hI.2.1
          have hI4 := hI
          refine wp_seq_k ?_; intro K600 hK600
          refine wp_region_lit ?_
          refine sA hS hR (Yld.lss hS rfl rfl) (by decide) ?_; clear hS; intro aa hS
          refine wpList_nil ?_
          refine hK600 _ _ ?_
          refine wp_seq_k ?_; intro K601 hK601
          refine hS.splitB (t := 152) rfl ?_ ?_ <;> clear hS
          · intro hg hS
            obtain ⟨hk4, hno4, hset4⟩ := seen2 hL2 (show j4 < A2.free.length by omega) hI.2
            have hsl := hI.2.1
            obtain ⟨k4, hk4e⟩ : ∃ k : Nat, A2.free[j4]'(by omega) = k := ⟨_, rfl⟩
            rw [hk4e] at hk4 hset4
            replace hno4 : ∀ h : k4 < sn4.length, sn4[k4] = false := by subst hk4e; exact hno4
            have hfj : A2.frees[j4]'(by omega) = (k4 : Int) := by simp [Ar.frees, hk4e]
            refine condT hS rfl ?_
            refine wp_skip ?_
            refine hK601 _ _ ?_
            refine wp_seq_k ?_; intro K602 hK602
            refine wp_block ?_
            refine wp_seq_k ?_; intro K603 hK603
            refine wp_region_lit ?_
            refine sA hS hR ((by first | exact Yld.indexL (sz := 1) _ hS rfl rfl Try.underlying36 info3 (by repeat (first | with_reducible exact Pk.here | with_reducible apply Pk.there)) rfl rfl (by omega) | exact Yld.indexB (sz := 1) _ hS rfl rfl Try.underlying36 info3 rfl rfl (by omega) | exact Yld.indexSlice hS rfl rfl Try.underlying36 info3 (by omega) (by omega))) (by decide) ?_; clear hS; intro aa hS
            refine sA hS hR (Yld.load1 hS rfl Try.underlying3 rfl (by first | exact Rd.blk (by repeat (first | with_reducible exact Pk.here | with_reducible apply Pk.there)) (by rfl) | exact Rd.rec (by repeat (first | with_reducible exact Pk.here | with_reducible apply Pk.there)) (by intro _; rfl) (by omega) rfl | exact Rd.rec0 (by repeat (first | with_reducible exact Pk.here | with_reducible apply Pk.there)) (by intro _; rfl) (by omega) rfl | exact Rd.flatJ (by repeat (first | with_reducible exact Pk.here | with_reducible apply Pk.there)) (by intro _; rfl) (by omega) rfl | exact Rd.flat0 (by repeat (first | with_reducible exact Pk.here | with_reducible apply Pk.there)) (by intro _; rfl) (by omega) rfl)) (by decide) ?_; clear hS; intro aa hS
            replace hS := hS.say (t := 154) (.int .i64 (k4 : Int)) rfl (by rw [hfj])
            refine sA hS hR (Yld.assign hS rfl) (by decide) ?_; clear hS; intro aa hS
            refine wpList_nil ?_
            refine hK603 _ _ ?_
            refine wp_seq_k ?_; intro K604 hK604
            refine wp_seq_k ?_; intro K605 hK605
            refine wp_region_lit ?_
            refine sA hS hR (Yld.move hS rfl) (by decide) ?_; clear hS; intro aa hS
            refine sA hS hR (Yld.lss hS rfl rfl) (by decide) ?_; clear hS; intro aa hS
            replace hS := hS.sayB (t := 156) false rfl (by exact decide_eq_false (by omega))
            refine sA hS hR (Yld.move hS rfl) (by decide) ?_; clear hS; intro aa hS
            refine sAg hS hR rfl rfl (Yld.move hS rfl) (by decide) ?_; clear hS; intro aa hS
            refine sAg hS hR rfl rfl (Yld.move hS rfl) (by decide) ?_; clear hS; intro aa hS
            refine sAg hS hR rfl rfl (Yld.geq hS rfl rfl) (by decide) ?_; clear hS; intro aa hS
            replace hS := hS.sayB (t := 160) false rfl (by exact decide_eq_false (by omega))
            refine sA hS hR (Yld.pickF hS rfl rfl) (by decide) ?_; clear hS; intro aa hS
            refine sA hS hR (Yld.move hS rfl) (by decide) ?_; clear hS; intro aa hS
            refine sAg hS hR rfl rfl (Yld.move hS rfl) (by decide) ?_; clear hS; intro aa hS
            refine sAg hS hR rfl rfl (Yld.move hS rfl) (by decide) ?_; clear hS; intro aa hS
            refine sAg hS hR rfl rfl ((by first | exact Yld.indexL (sz := 1) (k4) hS rfl rfl Try.underlying42 info4 (by repeat (first | with_reducible exact Pk.here | with_reducible apply Pk.there)) rfl (by first | rfl | omega) (by omega) | exact Yld.indexB (sz := 1) (k4) hS rfl rfl Try.underlying42 info4 rfl (by first | rfl | omega) (by omega))) (by decide) ?_; clear hS; intro aa hS
            refine sAg hS hR rfl rfl (Yld.load1 hS rfl Try.underlying4 rfl (by first | exact Rd.blk (by repeat (first | with_reducible exact Pk.here | with_reducible apply Pk.there)) (by rfl) | exact Rd.rec (by repeat (first | with_reducible exact Pk.here | with_reducible apply Pk.there)) (by intro _; rfl) (by omega) rfl | exact Rd.rec0 (by repeat (first | with_reducible exact Pk.here | with_reducible apply Pk.there)) (by intro _; rfl) (by omega) rfl | exact Rd.flatJ (by repeat (first | with_reducible exact Pk.here | with_reducible apply Pk.there)) (by intro _; rfl) (by omega) rfl | exact Rd.flat0 (by repeat (first | with_reducible exact Pk.here | with_reducible apply Pk.there)) (by intro _; rfl) (by omega) rfl)) (by decide) ?_; clear hS; intro aa hS
            replace hS := hS.sayB (t := 166) false rfl (by exact hno4 _)
            refine sA hS hR (Yld.pickF hS rfl rfl) (by decide) ?_; clear hS; intro aa hS
            refine wpList_nil ?_
            refine hK605 _ _ ?_
            refine condF hS rfl ?_
            refine wp_skip ?_
            refine hK604 _ _ ?_
            refine wp_region_lit ?_
            refine sA hS hR (Yld.move hS rfl) (by decide) ?_; clear hS; intro aa hS
            refine sA hS hR (Yld.move hS rfl) (by decide) ?_; clear hS; intro aa hS
            refine sA hS hR ((by first | exact Yld.indexL (sz := 1) (k4) hS rfl rfl Try.underlying42 info4 (by repeat (first | with_reducible exact Pk.here | with_reducible apply Pk.there)) rfl (by first | rfl | omega) (by omega) | exact Yld.indexB (sz := 1) (k4) hS rfl rfl Try.underlying42 info4 rfl (by first | rfl | omega) (by omega))) (by decide) ?_; clear hS; intro aa hS
            refine sB (BstoreR0 (true) hS hR rfl rfl (by rfl) info4 (by rfl) (by repeat (first | with_reducible exact Pk.here | with_reducible apply Pk.there)) (by rfl) (by intro _; rfl) (by omega) (Nat.le_of_ble_eq_true rfl) (Nat.le_of_ble_eq_true rfl) (by rfl) ?_); clear hR; intro ww hR
            refine wpList_nil ?_
            refine hK602 _ _ ?_
            refine wp_region_lit ?_
            refine sA hS hR ((by first | exact Yld.add64 hS rfl rfl (by omega) | exact Yld.add hS rfl rfl)) (by decide) ?_; clear hS; intro aa hS
            refine sA hS hR (Yld.move hS rfl) (by decide) ?_; clear hS; intro aa hS
            refine wpList_nil ?_
            
            refine ⟨(j4 + 1, _), ?_, ?_, hS.le (Le.cons rfl (Le.nilapp (Le.cons rfl (Le.cons rfl (Le.cons rfl (Le.cons rfl (Le.cons rfl (Le.cons rfl (Le.cons rfl (Le.cons rfl (Le.cons rfl (Le.cons rfl (Le.cons rfl (Le.cons rfl (Le.cons rfl (Le.cons rfl (Le.cons rfl (Le.cons rfl (Le.cons rfl (Le.cons rfl (Le.cons rfl (Le.cons rfl (Le.cons rfl (Le.cons rfl (Le.cons rfl (Le.cons rfl (Le.cons rfl (Le.cons rfl (Le.cons rfl (Le.cons rfl (Le.cons rfl (Le.cons rfl (Le.cons rfl (Le.cons rfl (Le.cons rfl (Le.cons rfl (Le.cons rfl (Le.cons rfl (Le.cons rfl (Le.cons rfl (Le.cons rfl (Le.cons rfl (Le.cons rfl (Le.cons rfl (Le.cons rfl (Le.cons rfl (Le.cons rfl (Le.cons rfl (Le.cons rfl (Le.cons rfl (Le.cons rfl (Le.cons rfl (Le.cons rfl (Le.cons rfl (Le.cons rfl (Le.cons rfl (Le.cons rfl (Le.cons rfl (Le.cons rfl (Le.cons rfl (Le.cons rfl (Le.cons rfl (Le.nil _))))))))))))))))))))))))))))))))))))))))))))))))))))))))))))))), hR.sub (Ex.take (by repeat (first | with_reducible exact Pk.here | with_reducible apply Pk.there)) (Ex.nilapp (by repeat (first | with_reducible exact Ex.refl | (with_reducible apply Ex.take; · repeat (first | with_reducible exact Pk.here | with_reducible apply Pk.there)) | with_reducible apply Ex.drop))))⟩
            · dsimp only; exact ⟨by omega, hset4⟩
            · dsimp only; omega
          · intro hg hS
            refine condF hS rfl ?_
            refine wp_exit ?_
            refine hK597 _ _ ?_
            refine wp_seq_k ?_; intro K606 hK606
            refine wp_seq_k ?_; intro K607 hK607
            refine wp_region_lit ?_
            refine sA hS hR (Yld.move hS rfl) (by decide) ?_; clear hS; intro aa hS
            refine sA hS hR (Yld.len hS rfl Try.underlying42) (by decide) ?_; clear hS; intro aa hS
            refine sA hS hR (Yld.move hS rfl) (by decide) ?_; clear hS; intro aa hS
            refine wpList_nil ?_
            refine hK607 _ _ ?_
            refine wp_block ?_
            replace hI4 : _ ∧ Seen sn4 m (P2 lv2 A2.free A2.free.length) := ⟨hI4.1, by rw [show A2.free.length = j4 by omega]; exact hI4.2⟩
            refine loopI (X := Nat) [(5, _), (6, _), (8, _), (9, _), (11, _), (14, _), (15, _), (43, _), (44, _), (45, _), (46, _), (47, _), (48, _), (49, _), (50, _), (51, _), (52, _), (53, _), (54, _), (55, _), (56, _), (83, _), (84, _), (85, _), (86, _), (87, _), (88, _), (89, _), (90, _), (91, _), (92, _), (93, _), (94, _), (95, _), (96, _), (97, _), (98, _), (99, _), (100, _), (101, _), (102, _), (103, _), (104, _), (105, _), (106, _), (107, _), (108, _), (109, _), (110, _), (111, _), (112, _), (113, _), (114, _), (115, _), (116, _), (117, _), (118, _), (148, _), (149, _), (150, _), (151, _), (152, _), (172, _), (173, _)] (fun x => [(174, .int .i64 (x : Int))]) (fun x => []) _ (fun x => x ≤ m) (fun x => m - x) 0 (Nat.zero_le _) (hS.le (Le.cons rfl (Le.nilapp (Le.cons rfl (Le.cons rfl (Le.cons rfl (Le.cons rfl (Le.cons rfl (Le.cons rfl (Le.cons rfl (Le.cons rfl (Le.cons rfl (Le.cons rfl (Le.cons rfl (Le.cons rfl (Le.cons rfl (Le.cons rfl (Le.cons rfl (Le.cons rfl (Le.cons rfl (Le.cons rfl (Le.cons rfl (Le.cons rfl (Le.cons rfl (Le.cons rfl (Le.cons rfl (Le.cons rfl (Le.cons rfl (Le.cons rfl (Le.cons rfl (Le.cons rfl (Le.cons rfl (Le.cons rfl (Le.cons rfl (Le.cons rfl (Le.cons rfl (Le.cons rfl (Le.cons rfl (Le.cons rfl (Le.cons rfl (Le.cons rfl (Le.cons rfl (Le.cons rfl (Le.cons rfl (Le.cons rfl (Le.cons rfl (Le.cons rfl (Le.cons rfl (Le.cons rfl (Le.cons rfl (Le.cons rfl (Le.cons rfl (Le.cons rfl (Le.cons rfl (Le.cons rfl (Le.cons rfl (Le.cons rfl (Le.cons rfl (Le.cons rfl (Le.cons rfl (Le.cons rfl (Le.cons rfl (Le.cons rfl (Le.cons rfl (Le.cons rfl (Le.cons rfl (Le.cons rfl (Le.nil _)))))))))))))))))))))))))))))))))))))))))))))))))))))))))))))))))))) hR ?_
            clear hS hR; rintro k6 aa ww hI hS hR; dsimp only [List.cons_append, List.nil_append] at hI hS hR
            refine wp_seq_k ?_; intro K609 hK609
            refine wp_region_lit ?_
            refine sA hS hR (Yld.lss hS rfl rfl) (by decide) ?_; clear hS; intro aa hS
            refine wpList_nil ?_
            refine hK609 _ _ ?_
            refine wp_seq_k ?_; intro K610 hK610
            refine hS.splitB (t := 175) rfl ?_ ?_ <;> clear hS
            · intro hg hS
              have hy := seen3 hL2 hI4.2 (show k6 < sn4.length by omega)
              refine condT hS rfl ?_
              refine wp_skip ?_
              refine hK610 _ _ ?_
              refine wp_seq_k ?_; intro K611 hK611
              refine wp_block ?_
              refine wp_seq_k ?_; intro K612 hK612
              refine wp_region_lit ?_
              refine sA hS hR ((by first | exact Yld.indexL (sz := 1) _ hS rfl rfl Try.underlying42 info4 (by repeat (first | with_reducible exact Pk.here | with_reducible apply Pk.there)) rfl rfl (by omega) | exact Yld.indexB (sz := 1) _ hS rfl rfl Try.underlying42 info4 rfl rfl (by omega) | exact Yld.indexSlice hS rfl rfl Try.underlying42 info4 (by omega) (by omega))) (by decide) ?_; clear hS; intro aa hS
              refine sA hS hR (Yld.load1 hS rfl Try.underlying4 rfl (by first | exact Rd.blk (by repeat (first | with_reducible exact Pk.here | with_reducible apply Pk.there)) (by rfl) | exact Rd.rec (by repeat (first | with_reducible exact Pk.here | with_reducible apply Pk.there)) (by intro _; rfl) (by omega) rfl | exact Rd.rec0 (by repeat (first | with_reducible exact Pk.here | with_reducible apply Pk.there)) (by intro _; rfl) (by omega) rfl | exact Rd.flatJ (by repeat (first | with_reducible exact Pk.here | with_reducible apply Pk.there)) (by intro _; rfl) (by omega) rfl | exact Rd.flat0 (by repeat (first | with_reducible exact Pk.here | with_reducible apply Pk.there)) (by intro _; rfl) (by omega) rfl)) (by decide) ?_; clear hS; intro aa hS
              replace hS := hS.sayB (t := 177) true rfl (by exact hy)
              refine sA hS hR (Yld.assign hS rfl) (by decide) ?_; clear hS; intro aa hS
              refine wpList_nil ?_
              refine hK612 _ _ ?_
              refine wp_seq_k ?_; intro K613 hK613
              refine wp_region_lit ?_
              refine sA hS hR (Yld.move hS rfl) (by decide) ?_; clear hS; intro aa hS
              refine sA hS hR (Yld.not hS rfl) (by decide) ?_; clear hS; intro aa hS
              refine wpList_nil ?_
              refine hK613 _ _ ?_
              refine condF hS rfl ?_
              refine wp_skip ?_
              refine hK611 _ _ ?_
              refine wp_region_lit ?_
              refine sA hS hR ((by first | exact Yld.add64 hS rfl rfl (by omega) | exact Yld.add hS rfl rfl)) (by decide) ?_; clear hS; intro aa hS
              refine sA hS hR (Yld.move hS rfl) (by decide) ?_; clear hS; intro aa hS
              refine wpList_nil ?_
              
              refine ⟨k6 + 1, ?_, ?_, hS.le (Le.cons rfl (Le.nilapp (Le.cons rfl (Le.cons rfl (Le.cons rfl (Le.cons rfl (Le.cons rfl (Le.cons rfl (Le.cons rfl (Le.cons rfl (Le.cons rfl (Le.cons rfl (Le.cons rfl (Le.cons rfl (Le.cons rfl (Le.cons rfl (Le.cons rfl (Le.cons rfl (Le.cons rfl (Le.cons rfl (Le.cons rfl (Le.cons rfl (Le.cons rfl (Le.cons rfl (Le.cons rfl (Le.cons rfl (Le.cons rfl (Le.cons rfl (Le.cons rfl (Le.cons rfl (Le.cons rfl (Le.cons rfl (Le.cons rfl (Le.cons rfl (Le.cons rfl (Le.cons rfl (Le.cons rfl (Le.cons rfl (Le.cons rfl (Le.cons rfl (Le.cons rfl (Le.cons rfl (Le.cons rfl (Le.cons rfl (Le.cons rfl (Le.cons rfl (Le.cons rfl (Le.cons rfl (Le.cons rfl (Le.cons rfl (Le.cons rfl (Le.cons rfl (Le.cons rfl (Le.cons rfl (Le.cons rfl (Le.cons rfl (Le.cons rfl (Le.cons rfl (Le.cons rfl (Le.cons rfl (Le.cons rfl (Le.cons rfl (Le.cons rfl (Le.cons rfl (Le.cons rfl (Le.cons rfl (Le.nil _))))))))))))))))))))))))))))))))))))))))))))))))))))))))))))))))))), hR.sub (Ex.nilapp (by repeat (first | with_reducible exact Ex.refl | (with_reducible apply Ex.take; · repeat (first | with_reducible exact Pk.here | with_reducible apply Pk.there)) | with_reducible apply Ex.drop)))⟩
              · omega
              · omega
            · intro hg hS
              refine condF hS rfl ?_
              refine wp_exit ?_
              refine hK606 _ _ ?_
              refine wp_seq_k ?_; intro K614 hK614
              refine wp_region_lit ?_
              refine sA hS hR (Yld.move hS rfl) (by decide) ?_; clear hS; intro aa hS
              refine sB (Bcall hS rfl Try.call15 (Count_okA (hR.pk (r := arena 57 60 _ _) (by repeat (first | with_reducible exact Pk.here | with_reducible apply Pk.there)))) (by decide) ?_); clear hS; intro aa ww vv hS hp
              clear hR
              obtain ⟨rfl, hR⟩ := hp
              refine sA hS hR (Yld.move hS rfl) (by decide) ?_; clear hS; intro aa hS
              refine sA hS hR (Yld.len hS rfl Try.underlying27) (by decide) ?_; clear hS; intro aa hS
              refine sA hS hR (Yld.neq hS rfl rfl) (by decide) ?_; clear hS; intro aa hS
              replace hS := hS.sayB (t := 185) false rfl (by exact decide_eq_false (by omega))
              refine sA hS hR (Yld.move hS rfl) (by decide) ?_; clear hS; intro aa hS
              refine sAg hS hR rfl rfl (Yld.move hS rfl) (by decide) ?_; clear hS; intro aa hS
              refine sBg hS rfl rfl (Bcall hS rfl Try.call17 (All_okA (hR.pk (r := arena 57 60 _ _) (by repeat (first | with_reducible exact Pk.here | with_reducible apply Pk.there)))) (by decide) ?_); clear hS; intro aa ww vv hS hp
              clear hR
              obtain ⟨ra, ca, rfl, hR⟩ := hp
              refine sAg hS hR rfl rfl (Yld.len hS rfl Try.underlying27) (by decide) ?_; clear hS; intro aa hS
              refine sAg hS hR rfl rfl (Yld.move hS rfl) (by decide) ?_; clear hS; intro aa hS
              refine sAg hS hR rfl rfl (Yld.len hS rfl Try.underlying27) (by decide) ?_; clear hS; intro aa hS
              refine sAg hS hR rfl rfl (Yld.neq hS rfl rfl) (by decide) ?_; clear hS; intro aa hS
              replace hS := hS.sayB (t := 192) false rfl (by exact decide_eq_false (by omega))
              refine sA hS hR (Yld.pickF hS rfl rfl) (by decide) ?_; clear hS; intro aa hS
              refine wpList_nil ?_
              refine hK614 _ _ ?_
              refine condF hS rfl ?_
              refine wp_skip ?_
              refine hK457 _ _ ?_
              refine wp_region_lit ?_
              refine sA hS hR ((by first | exact Yld.add64 hS rfl rfl (by omega) | exact Yld.add hS rfl rfl)) (by decide) ?_; clear hS; intro aa hS
              refine sA hS hR (Yld.move hS rfl) (by decide) ?_; clear hS; intro aa hS
              refine wpList_nil ?_
              
              refine ⟨(j + 1, A2, lv2, gn2, (_, _), (_, _)), ?_, ?_, hS.le (Le.cons rfl (Le.cons rfl (Le.cons rfl (Le.nilapp (Le.cons rfl (Le.cons rfl (Le.cons rfl (Le.cons rfl (Le.nil _))))))))), hR.sub (Ex.take (by repeat (first | with_reducible exact Pk.here | with_reducible apply Pk.there)) (Ex.take (by repeat (first | with_reducible exact Pk.here | with_reducible apply Pk.there)) (Ex.take (by repeat (first | with_reducible exact Pk.here | with_reducible apply Pk.there)) (Ex.nilapp (by repeat (first | with_reducible exact Ex.refl | (with_reducible apply Ex.take; · repeat (first | with_reducible exact Pk.here | with_reducible apply Pk.there)) | with_reducible apply Ex.drop))))))⟩
              · dsimp only; exact ⟨by omega, hL2, hG2, hgl2⟩
              · dsimp only; omega
  · intro hg hS
    refine condF hS rfl ?_
    refine wp_exit ?_
    refine hK452 _ _ ?_
    refine wp_seq_k ?_; intro K615 hK615
    refine wp_seq_k ?_; intro K616 hK616
    refine wp_region_lit ?_
    refine sA hS hR (Yld.move hS rfl) (by decide) ?_; clear hS; intro aa hS
    refine sA hS hR (Yld.len hS rfl Try.underlying27) (by decide) ?_; clear hS; intro aa hS
    refine sA hS hR (Yld.move hS rfl) (by decide) ?_; clear hS; intro aa hS
    refine wpList_nil ?_
    refine hK616 _ _ ?_
    refine wp_block ?_
    refine loopI (X := Nat) [(6, _), (195, _), (196, _)] (fun x => [(197, .int .i64 (x : Int))]) (fun x => []) _ (fun x => x ≤ gone.length) (fun x => gone.length - x) 0 (Nat.zero_le _) (hS.le (Le.cons rfl (Le.nilapp (Le.cons rfl (Le.cons rfl (Le.cons rfl (Le.nil _))))))) hR ?_
    clear hS hR; rintro j8 aa ww hI hS hR; dsimp only [List.cons_append, List.nil_append] at hI hS hR
    refine wp_seq_k ?_; intro K618 hK618
    refine wp_region_lit ?_
    refine sA hS hR (Yld.lss hS rfl rfl) (by decide) ?_; clear hS; intro aa hS
    refine wpList_nil ?_
    refine hK618 _ _ ?_
    refine wp_seq_k ?_; intro K619 hK619
    refine hS.splitB (t := 198) rfl ?_ ?_ <;> clear hS
    · intro hg hS
      have hno := hGn.not hLv.ok (List.getElem_mem (show j8 < gone.length by omega))
      refine condT hS rfl ?_
      refine wp_skip ?_
      refine hK619 _ _ ?_
      refine wp_seq_k ?_; intro K620 hK620
      refine wp_block ?_
      refine wp_seq_k ?_; intro K621 hK621
      refine wp_region_lit ?_
      refine sA hS hR ((by first | exact Yld.indexL (sz := 2) _ hS rfl rfl Try.underlying27 info29 (by repeat (first | with_reducible exact Pk.here | with_reducible apply Pk.there)) rfl rfl (by omega) | exact Yld.indexB (sz := 2) _ hS rfl rfl Try.underlying27 info29 rfl rfl (by omega) | exact Yld.indexSlice hS rfl rfl Try.underlying27 info29 (by omega) (by omega))) (by decide) ?_; clear hS; intro aa hS
      refine sA hS hR (Yld.loadAgg hS rfl Try.underlying29 rfl info29 (by first | exact Rds.cons (Rd.blk (by repeat (first | with_reducible exact Pk.here | with_reducible apply Pk.there)) (by rfl)) (Rds.cons (Rd.blk (by repeat (first | with_reducible exact Pk.here | with_reducible apply Pk.there)) (by rfl)) (Rds.nil)) | exact Rds.rec (by repeat (first | with_reducible exact Pk.here | with_reducible apply Pk.there)) (by intro _; rfl) (by omega) | exact Rds.flat1 (by repeat (first | with_reducible exact Pk.here | with_reducible apply Pk.there)) (by intro _; rfl) (by omega)) (by rfl)) (by decide) ?_; clear hS; intro aa hS
      refine sB (Balloc hS hR info29 (by rfl) (by rfl) (by decide) ?_); clear hS hR; intro aa ww bb23 hS hR
      refine sB (Bstore hS hR rfl rfl (by rfl) info29 (by rfl) (by repeat (first | with_reducible exact Pk.here | with_reducible apply Pk.there)) (by rfl) (Nat.le_of_ble_eq_true rfl) ?_); clear hR; intro ww hR
      refine wpList_nil ?_
      refine hK621 _ _ ?_
      refine wp_seq_k ?_; intro K622 hK622
      refine wp_region_lit ?_
      refine sA hS hR (Yld.move hS rfl) (by decide) ?_; clear hS; intro aa hS
      refine sA hS hR (Yld.loadAgg hS rfl Try.underlying29 rfl info29 (by first | exact Rds.cons (Rd.blk (by repeat (first | with_reducible exact Pk.here | with_reducible apply Pk.there)) (by rfl)) (Rds.cons (Rd.blk (by repeat (first | with_reducible exact Pk.here | with_reducible apply Pk.there)) (by rfl)) (Rds.nil)) | exact Rds.rec (by repeat (first | with_reducible exact Pk.here | with_reducible apply Pk.there)) (by intro _; rfl) (by omega) | exact Rds.flat1 (by repeat (first | with_reducible exact Pk.here | with_reducible apply Pk.there)) (by intro _; rfl) (by omega)) (by rfl)) (by decide) ?_; clear hS; intro aa hS
      refine sB (Bcall hS rfl Try.call13 (Live_okA (hR.pk (r := arena 57 60 _ _) (by repeat (first | with_reducible exact Pk.here | with_reducible apply Pk.there)))) (by decide) ?_); clear hS; intro aa ww vv hS hp
      clear hR
      obtain ⟨rfl, hR⟩ := hp
      replace hS := hS.sayB (t := 203) false rfl (by exact decide_eq_false hno)
      refine sA hS hR (Yld.move hS rfl) (by decide) ?_; clear hS; intro aa hS
      refine sAg hS hR rfl rfl (Yld.move hS rfl) (by decide) ?_; clear hS; intro aa hS
      refine sAg hS hR rfl rfl (Yld.loadAgg hS rfl Try.underlying29 rfl info29 (by first | exact Rds.cons (Rd.blk (by repeat (first | with_reducible exact Pk.here | with_reducible apply Pk.there)) (by rfl)) (Rds.cons (Rd.blk (by repeat (first | with_reducible exact Pk.here | with_reducible apply Pk.there)) (by rfl)) (Rds.nil)) | exact Rds.rec (by repeat (first | with_reducible exact Pk.here | with_reducible apply Pk.there)) (by intro _; rfl) (by omega) | exact Rds.flat1 (by repeat (first | with_reducible exact Pk.here | with_reducible apply Pk.there)) (by intro _; rfl) (by omega)) (by rfl)) (by decide) ?_; clear hS; intro aa hS
      refine sBg hS rfl rfl (Bcall hS rfl Try.call11 (Give_okA (hR.pk (r := arena 57 60 _ _) (by repeat (first | with_reducible exact Pk.here | with_reducible apply Pk.there)))) (by decide) ?_); clear hS; intro aa ww vv hS hp
      clear hR
      obtain ⟨rfl, hR⟩ := hp
      rw [giveE_no hno] at hS
      rw [Ar.giveH_no hno] at hR
      refine sAg hS hR rfl rfl (Yld.neq hS rfl rfl) (by decide) ?_; clear hS; intro aa hS
      replace hS := hS.sayB (t := 208) false rfl (by simp)
      refine sA hS hR (Yld.pickF hS rfl rfl) (by decide) ?_; clear hS; intro aa hS
      refine wpList_nil ?_
      refine hK622 _ _ ?_
      refine condF hS rfl ?_
      refine wp_skip ?_
      refine hK620 _ _ ?_
      refine wp_region_lit ?_
      refine sA hS hR ((by first | exact Yld.add64 hS rfl rfl (by omega) | exact Yld.add hS rfl rfl)) (by decide) ?_; clear hS; intro aa hS
      refine sA hS hR (Yld.move hS rfl) (by decide) ?_; clear hS; intro aa hS
      refine wpList_nil ?_
      
      refine ⟨j8 + 1, ?_, ?_, hS.le (Le.cons rfl (Le.nilapp (Le.cons rfl (Le.cons rfl (Le.cons rfl (Le.nil _)))))), hR.sub (Ex.nilapp (by repeat (first | with_reducible exact Ex.refl | (with_reducible apply Ex.take; · repeat (first | with_reducible exact Pk.here | with_reducible apply Pk.there)) | with_reducible apply Ex.drop)))⟩
      · omega
      · omega
    · intro hg hS
      refine condF hS rfl ?_
      refine wp_exit ?_
      refine hK615 _ _ ?_
      refine wp_seq_k ?_; intro K623 hK623
      refine wp_region_lit ?_
      refine sB (Bcall hS rfl Try.call12 (awake_ok hR) (by decide) ?_); clear hS; intro aa ww vv hS hp
      clear hR
      obtain ⟨rfl, hR⟩ := hp
      refine sA hS hR (Yld.assign hS rfl) (by decide) ?_; clear hS; intro aa hS
      refine wpList_nil ?_
      refine hK623 _ _ ?_
      refine wp_ret ?_
      repeat (first | with_reducible refine thenR ?_ | with_reducible refine blockR ?_ | with_reducible refine scopeR ?_)
      refine ret1 (fn := Try.f5) (e := .ret) (.inl rfl) Try.results5 hS hR ⟨_, (.tmp rfl), ?_⟩
      exact ⟨rfl, (hR.sub (by repeat (first | with_reducible exact Ex.refl | (with_reducible apply Ex.take; · repeat (first | with_reducible exact Pk.here | with_reducible apply Pk.there)) | with_reducible apply Ex.drop)))⟩
end Go.Proofs.Ytmlebadfedleoaa.Sx
