/-
  
-/
import Derived.Test.YtojeibjlkbffcaaLsB
namespace Go.Proofs.Ytojeibjlkbffcaa.Sx
open Go
set_option linter.unusedVariables false
set_option linter.unusedSimpArgs false

theorem bls27_0_  (w : World) : (Instr.buildSlice 27 0 [].toArray).run Try.prog w = .ok (.slice (some ⟨w.heap.size, 0, none⟩) 0 0) (w.alloc (.cells ([] : List Value).toArray 3)) := by kernel_rfl

set_option maxHeartbeats 4000000 in
set_option maxRecDepth 20000 in
theorem LruAgain_ok {W : World} {q : Option Addr} {n c : Nat} {xs : List (List Int)} (A1 : ArgS W [.u8] q n c xs) {sv : Int} {l : List HP} {w : World} (hR : Sep (old W :: l) w) (hsv : 0 ≤ sv ∧ sv ≤ 255) : CallR Try.prog 9 [.slice q n c, .int .u8 sv] w (fun v w' => v = .bool true ∧ Sep (old W :: l) w') := by
  refine enter Try.func9 rfl Try.ntmps9 (Nat.le_of_ble_eq_true rfl) ?_; intro aa hS
  have hcap := A1.cap
  refine wp_seq_k ?_; intro K318 hK318
  refine wp_region_lit ?_
  refine sA hS hR (Yld.assign hS rfl) (by decide) ?_; clear hS; intro aa hS
  refine wpList_nil ?_
  refine hK318 _ _ ?_
  refine wp_seq_k ?_; intro K319 hK319
  refine wp_region_lit ?_
  refine sA hS hR (Yld.move hS rfl) (by decide) ?_; clear hS; intro aa hS
  refine sB (Bcall hS rfl Try.call10 (seen_ok A1 hR) (by decide) ?_); clear hS; intro aa ww vv hS hp
  clear hR
  obtain ⟨b, ord, T, now, tm, rfl, hLI, hn0, hn1, hR⟩ := hp
  have hol := hLI.len
  refine sA hS hR (Yld.move hS rfl) (by decide) ?_; clear hS; intro aa hS
  refine sA hS hR (Yld.extract hS rfl rfl) (by decide) ?_; clear hS; intro aa hS
  refine sA hS hR (Yld.extract hS rfl rfl) (by decide) ?_; clear hS; intro aa hS
  refine sA hS hR (Yld.extract hS rfl rfl) (by decide) ?_; clear hS; intro aa hS
  refine sB (Balloc hS hR info24 (by rfl) (by rfl) (by decide) ?_); clear hS hR; intro aa ww bb6 hS hR
  refine sA hS hR (Yld.assign hS rfl) (by decide) ?_; clear hS; intro aa hS
  refine sB (Bstore hS hR rfl rfl (by rfl) info24 (by rfl) (by repeat (first | with_reducible exact Pk.here | with_reducible apply Pk.there)) (by rfl) (Nat.le_of_ble_eq_true rfl) ?_); clear hR; intro ww hR
  refine sA hS hR (Yld.assign hS rfl) (by decide) ?_; clear hS; intro aa hS
  refine wpList_nil ?_
  refine hK319 _ _ ?_
  refine wp_seq_k ?_; intro K320 hK320
  refine wp_seq_k ?_; intro K321 hK321
  refine wp_region_lit ?_
  refine sA hS hR (Yld.move hS rfl) (by decide) ?_; clear hS; intro aa hS
  refine sA hS hR (Yld.not hS rfl) (by decide) ?_; clear hS; intro aa hS
  replace hS := hS.sayB (t := 27) false rfl (by rfl)
  refine wpList_nil ?_
  refine hK321 _ _ ?_
  refine condF hS rfl ?_
  refine wp_skip ?_
  refine hK320 _ _ ?_
  refine wp_seq_k ?_; intro K322 hK322
  refine wp_region_lit ?_
  refine sA hS hR (Yld.move hS rfl) (by decide) ?_; clear hS; intro aa hS
  refine sA hS hR ((by first | exact Yld.to (Yld.convInt hS rfl rfl Try.underlying3) (congrArg (Value.int .i64) (IntWalk.i64_in _ (by omega))) | exact Yld.convInt hS rfl rfl Try.underlying3)) (by decide) ?_; clear hS; intro aa hS
  refine sA hS hR ((by first | exact Yld.rem64 hS rfl rfl (by omega) | exact Yld.rem hS rfl rfl (by omega))) (by decide) ?_; clear hS; intro aa hS
  obtain ⟨s, hs0, hs⟩ := emod_nat (n := sv) (d := 16) (m := 16) rfl (by omega)
  replace hS := hS.say (t := 30) (.int .i64 (s : Int)) rfl (by rw [hs0])
  refine sA hS hR (Yld.assign hS rfl) (by decide) ?_; clear hS; intro aa hS
  refine wpList_nil ?_
  refine hK322 _ _ ?_
  refine wp_seq_k ?_; intro K323 hK323
  refine wp_region_lit ?_
  refine sA hS hR (Yld.assign hS rfl) (by decide) ?_; clear hS; intro aa hS
  refine wpList_nil ?_
  refine hK323 _ _ ?_
  refine wp_seq_k ?_; intro K324 hK324
  refine wp_seq_k ?_; intro K325 hK325
  refine wp_region_lit ?_
  refine sA hS hR (Yld.move hS rfl) (by decide) ?_; clear hS; intro aa hS
  refine sB (Bcall hS rfl Try.call11 (lrAll_ok  (hR.pk (r := lruA _ _ _ _ _ _ _ _ _) (by repeat (first | with_reducible exact Pk.here | with_reducible apply Pk.there)))) (by decide) ?_); clear hS; intro aa ww vv hS hp
  clear hR
  obtain ⟨ra, cra, rfl, hR⟩ := hp
  have hcl := cst_len (l := ord)
  refine sA hS hR (Yld.len hS rfl Try.underlying27) (by decide) ?_; clear hS; intro aa hS
  refine sA hS hR (Yld.move hS rfl) (by decide) ?_; clear hS; intro aa hS
  refine wpList_nil ?_
  refine hK325 _ _ ?_
  refine wp_block ?_
  replace hR := hR.slsNil (T := 3) (sz := 1)
  replace hR := hR.pk (r := sls none 0 0 3 1 []) (by repeat (first | with_reducible exact Pk.here | with_reducible apply Pk.there))
  refine loopI (X := Nat × Option Addr × Nat) [(4, _), (5, _), (8, _), (32, _), (33, _)] (fun x => [(9, .slice x.2.1 (cst ((ord.take x.1).filter (fun z => decide (z ≠ s)))).length x.2.2), (34, .int .i64 (x.1 : Int))]) (fun x => [sls x.2.1 (cst ((ord.take x.1).filter (fun z => decide (z ≠ s)))).length x.2.2 3 1 ((cst ((ord.take x.1).filter (fun z => decide (z ≠ s)))).flatMap e1)]) _ (fun x => x.1 ≤ ord.length) (fun x => ord.length - x.1) (0, none, 0) (Nat.zero_le _) (hS.le (Le.cons rfl (Le.cons rfl (Le.nilapp (Le.cons rfl (Le.cons rfl (Le.cons rfl (Le.cons rfl (Le.cons rfl (Le.nil _)))))))))) hR ?_
  clear hS hR; rintro ⟨i, r0, c0⟩ aa ww hI hS hR; dsimp only [List.cons_append, List.nil_append] at hI hS hR
  refine wp_seq_k ?_; intro K327 hK327
  refine wp_region_lit ?_
  refine sA hS hR (Yld.lss hS rfl rfl) (by decide) ?_; clear hS; intro aa hS
  refine wpList_nil ?_
  refine hK327 _ _ ?_
  refine wp_seq_k ?_; intro K328 hK328
  refine hS.splitB (t := 35) rfl ?_ ?_ <;> clear hS
  · intro hg hS
    have hio : i < ord.length := by omega
    obtain ⟨x0, hx0⟩ : ∃ y, ord[i] = y := ⟨_, rfl⟩
    have hfn := filter_next (p := (fun x => decide (x ≠ s))) hio hx0
    have hfl := List.length_filter_le (fun x => decide (x ≠ s)) (ord.take i)
    have hft : (ord.take i).length ≤ 16 := by rw [List.length_take]; omega
    have hfc := cst_len (l := (ord.take i).filter (fun x => decide (x ≠ s)))
    refine condT hS rfl ?_
    refine wp_skip ?_
    refine hK328 _ _ ?_
    refine wp_seq_k ?_; intro K329 hK329
    refine wp_block ?_
    refine wp_seq_k ?_; intro K330 hK330
    refine wp_region_lit ?_
    refine sA hS hR ((by first | exact Yld.indexH (sz := 1) (i) hS rfl rfl Try.underlying27 info3 (by assumption) rfl (by first | rfl | omega) (by omega) | exact Yld.indexL (sz := 1) (i) hS rfl rfl Try.underlying27 info3 (by repeat (first | with_reducible exact Pk.here | with_reducible apply Pk.there)) rfl (by first | rfl | omega) (by omega) | exact Yld.indexB (sz := 1) (i) hS rfl rfl Try.underlying27 info3 rfl (by first | rfl | omega) (by omega))) (by decide) ?_; clear hS; intro aa hS
    refine sA hS hR (Yld.load1 hS rfl Try.underlying3 rfl (Rd.rec0 (k := i) (xs := cst ord) (v := .int .i64 ((x0 : Nat) : Int)) (by repeat (first | with_reducible exact Pk.here | with_reducible apply Pk.there)) (by intro _; rfl) (by omega) (by rw [cst_get]; simp only [hx0]; rfl))) (by decide) ?_; clear hS; intro aa hS
    refine sA hS hR (Yld.assign hS rfl) (by decide) ?_; clear hS; intro aa hS
    refine wpList_nil ?_
    refine hK330 _ _ ?_
    refine wp_seq_k ?_; intro K331 hK331
    refine wp_region_lit ?_
    refine sA hS hR (Yld.move hS rfl) (by decide) ?_; clear hS; intro aa hS
    refine sA hS hR (Yld.move hS rfl) (by decide) ?_; clear hS; intro aa hS
    refine sA hS hR (Yld.neq hS rfl rfl) (by decide) ?_; clear hS; intro aa hS
    refine wpList_nil ?_
    refine hK331 _ _ ?_
    refine hS.splitB (t := 40) rfl ?_ ?_ <;> clear hS
    · intro hg hS
      rw [if_pos (decide_eq_true (by omega))] at hfn
      refine condT hS rfl ?_
      refine wp_region_lit ?_
      refine sA hS hR (Yld.move hS rfl) (by decide) ?_; clear hS; intro aa hS
      refine sA hS hR (Yld.move hS rfl) (by decide) ?_; clear hS; intro aa hS
      refine sB (BbuildSlice hS hR rfl (bls27_1_0 _) (by decide) ?_); clear hS hR; intro aa ww bb43 hS hR
      refine sB (BappendR (sz := 1) hS hR rfl rfl Try.underlying27 info3 rfl rfl (by rfl) (by repeat (first | with_reducible exact Pk.here | with_reducible apply Pk.there)) (XC.one ((x0 : Int)) (by repeat (first | with_reducible exact Pk.here | with_reducible apply Pk.there)) (by rfl) rfl) (by intro _; rfl) (by show (_ + _) * 8 ≤ _; first | omega | (simp only [List.length_take, List.length_append, List.length_drop, List.length_cons, List.length_nil, List.length_map]; omega)) (by first | omega | (simp only [List.length_take, List.length_append, List.length_drop, List.length_cons, List.length_nil, List.length_map]; omega)) (by first | rfl | (simp; done) | (simp; omega)) (by decide) ?_); clear hS hR; intro aa ww r44 c44 hS hR
      rw [cst_snoc] at hS hR
      refine sA hS hR (Yld.assign hS rfl) (by decide) ?_; clear hS; intro aa hS
      refine wpList_nil ?_
      refine hK329 _ _ ?_
      refine wp_region_lit ?_
      refine sA hS hR ((by first | exact Yld.add64 hS rfl rfl (by omega) | exact Yld.add hS rfl rfl)) (by decide) ?_; clear hS; intro aa hS
      refine sA hS hR (Yld.move hS rfl) (by decide) ?_; clear hS; intro aa hS
      refine wpList_nil ?_
      rw [← hfn] at hS hR
      refine ⟨(i + 1, _, _), ?_, ?_, hS.le (Le.cons rfl (Le.cons rfl (Le.nilapp (Le.cons rfl (Le.cons rfl (Le.cons rfl (Le.cons rfl (Le.cons rfl (Le.nil _))))))))), hR.sub (Ex.take (by repeat (first | with_reducible exact Pk.here | with_reducible apply Pk.there)) (Ex.nilapp (by repeat (first | with_reducible exact Ex.refl | (with_reducible apply Ex.take; · repeat (first | with_reducible exact Pk.here | with_reducible apply Pk.there)) | with_reducible apply Ex.drop))))⟩
      · dsimp only; omega
      · dsimp only; omega
    · intro hg hS
      rw [if_neg (by simp; omega)] at hfn
      refine condF hS rfl ?_
      refine wp_skip ?_
      refine hK329 _ _ ?_
      refine wp_region_lit ?_
      refine sA hS hR ((by first | exact Yld.add64 hS rfl rfl (by omega) | exact Yld.add hS rfl rfl)) (by decide) ?_; clear hS; intro aa hS
      refine sA hS hR (Yld.move hS rfl) (by decide) ?_; clear hS; intro aa hS
      refine wpList_nil ?_
      rw [← hfn] at hS hR
      refine ⟨(i + 1, _, _), ?_, ?_, hS.le (Le.cons rfl (Le.cons rfl (Le.nilapp (Le.cons rfl (Le.cons rfl (Le.cons rfl (Le.cons rfl (Le.cons rfl (Le.nil _))))))))), hR.sub (Ex.take (by repeat (first | with_reducible exact Pk.here | with_reducible apply Pk.there)) (Ex.nilapp (by repeat (first | with_reducible exact Ex.refl | (with_reducible apply Ex.take; · repeat (first | with_reducible exact Pk.here | with_reducible apply Pk.there)) | with_reducible apply Ex.drop))))⟩
      · dsimp only; omega
      · dsimp only; omega
  · intro hg hS
    have hio : i = ord.length := by omega
    rw [hio, List.take_of_length_le (Nat.le_refl _), erase_filter hLI.nd] at hS hR
    have hce := cst_len (l := ord.erase s)
    have hel := List.length_erase_le (a := s) (l := ord)
    refine condF hS rfl ?_
    refine wp_exit ?_
    refine hK324 _ _ ?_
    refine wp_seq_k ?_; intro K332 hK332
    refine wp_region_lit ?_
    refine sA hS hR (Yld.move hS rfl) (by decide) ?_; clear hS; intro aa hS
    refine sB (Bcall hS rfl Try.call18 (lrNow_ok (hR.pk (r := lruA _ _ _ _ _ _ _ _ _) (by repeat (first | with_reducible exact Pk.here | with_reducible apply Pk.there)))) (by decide) ?_); clear hS; intro aa ww vv hS hp
    clear hR
    obtain ⟨rfl, hR⟩ := hp
    refine sA hS hR (Yld.assign hS rfl) (by decide) ?_; clear hS; intro aa hS
    refine wpList_nil ?_
    refine hK332 _ _ ?_
    refine wp_seq_k ?_; intro K333 hK333
    refine wp_region_lit ?_
    refine sA hS hR (Yld.move hS rfl) (by decide) ?_; clear hS; intro aa hS
    refine sA hS hR (Yld.move hS rfl) (by decide) ?_; clear hS; intro aa hS
    refine sB (Bcall hS rfl Try.call19 (lrSee_ok (i := (s : Int)) (hR.pk (r := lruA _ _ _ _ _ _ _ _ _) (by repeat (first | with_reducible exact Pk.here | with_reducible apply Pk.there))) (by omega)) (by decide) ?_); clear hS; intro aa ww vv hS hp
    clear hR
    obtain ⟨rfl, hR⟩ := hp
    rw [see_V hs] at hS
    rw [see_O hs, see_T hs, see_N hs] at hR
    refine sA hS hR (Yld.move hS rfl) (by decide) ?_; clear hS; intro aa hS
    refine sA hS hR (Yld.extract hS rfl rfl) (by decide) ?_; clear hS; intro aa hS
    refine sA hS hR (Yld.extract hS rfl rfl) (by decide) ?_; clear hS; intro aa hS
    refine sA hS hR (Yld.assign hS rfl) (by decide) ?_; clear hS; intro aa hS
    refine sA hS hR (Yld.assign hS rfl) (by decide) ?_; clear hS; intro aa hS
    refine wpList_nil ?_
    refine hK333 _ _ ?_
    refine wp_seq_k ?_; intro K334 hK334
    refine wp_region_lit ?_
    refine sA hS hR (Yld.move hS rfl) (by decide) ?_; clear hS; intro aa hS
    refine sB (Bcall hS rfl Try.call26 (lrNewest_ok (hR.pk (r := lruA _ _ _ _ _ _ _ _ _) (by repeat (first | with_reducible exact Pk.here | with_reducible apply Pk.there)))) (by decide) ?_); clear hS; intro aa ww vv hS hp
    clear hR
    obtain ⟨rfl, hR⟩ := hp
    rw [head_end] at hS; (try dsimp only [optV, Option.getD, Option.isSome] at hS)
    refine sA hS hR (Yld.move hS rfl) (by decide) ?_; clear hS; intro aa hS
    refine sA hS hR (Yld.extract hS rfl rfl) (by decide) ?_; clear hS; intro aa hS
    refine sA hS hR (Yld.extract hS rfl rfl) (by decide) ?_; clear hS; intro aa hS
    refine sA hS hR (Yld.assign hS rfl) (by decide) ?_; clear hS; intro aa hS
    refine sA hS hR (Yld.assign hS rfl) (by decide) ?_; clear hS; intro aa hS
    refine wpList_nil ?_
    refine hK334 _ _ ?_
    refine wp_seq_k ?_; intro K335 hK335
    refine wp_region_lit ?_
    refine sA hS hR (Yld.move hS rfl) (by decide) ?_; clear hS; intro aa hS
    refine sB (Bcall hS rfl Try.call11 (lrAll_ok  (hR.pk (r := lruA _ _ _ _ _ _ _ _ _) (by repeat (first | with_reducible exact Pk.here | with_reducible apply Pk.there)))) (by decide) ?_); clear hS; intro aa ww vv hS hp
    clear hR
    obtain ⟨rb, crb, rfl, hR⟩ := hp
    have hcb : (cst (ord.erase s ++ [s])).length ≤ 17 := by rw [cst_len, List.length_append]; have := List.length_erase_le (a := s) (l := ord); simp; omega
    refine sA hS hR (Yld.assign hS rfl) (by decide) ?_; clear hS; intro aa hS
    refine wpList_nil ?_
    refine hK335 _ _ ?_
    refine wp_seq_k ?_; intro K336 hK336
    refine wp_seq_k ?_; intro K337 hK337
    refine wp_region_lit ?_
    refine sA hS hR (Yld.move hS rfl) (by decide) ?_; clear hS; intro aa hS
    refine sA hS hR (Yld.neq hS rfl rfl) (by decide) ?_; clear hS; intro aa hS
    replace hS := hS.sayB (t := 62) false rfl (by decide)
    refine sA hS hR (Yld.move hS rfl) (by decide) ?_; clear hS; intro aa hS
    refine sAg hS hR rfl rfl (Yld.move hS rfl) (by decide) ?_; clear hS; intro aa hS
    refine sAg hS hR rfl rfl (Yld.move hS rfl) (by decide) ?_; clear hS; intro aa hS
    refine sAg hS hR rfl rfl ((by first | exact Yld.add64 hS rfl rfl (by omega) | exact Yld.add hS rfl rfl)) (by decide) ?_; clear hS; intro aa hS
    refine sAg hS hR rfl rfl (Yld.neq hS rfl rfl) (by decide) ?_; clear hS; intro aa hS
    replace hS := hS.sayB (t := 67) false rfl (by simp)
    refine sA hS hR (Yld.pickF hS rfl rfl) (by decide) ?_; clear hS; intro aa hS
    refine sA hS hR (Yld.move hS rfl) (by decide) ?_; clear hS; intro aa hS
    refine sAg hS hR rfl rfl (Yld.move hS rfl) (by decide) ?_; clear hS; intro aa hS
    refine sAg hS hR rfl rfl (Yld.not hS rfl) (by decide) ?_; clear hS; intro aa hS
    replace hS := hS.sayB (t := 71) false rfl (by rfl)
    refine sA hS hR (Yld.pickF hS rfl rfl) (by decide) ?_; clear hS; intro aa hS
    refine sA hS hR (Yld.move hS rfl) (by decide) ?_; clear hS; intro aa hS
    refine sAg hS hR rfl rfl (Yld.move hS rfl) (by decide) ?_; clear hS; intro aa hS
    refine sAg hS hR rfl rfl (Yld.move hS rfl) (by decide) ?_; clear hS; intro aa hS
    refine sAg hS hR rfl rfl (Yld.neq hS rfl rfl) (by decide) ?_; clear hS; intro aa hS
    replace hS := hS.sayB (t := 76) false rfl (by simp)
    refine sA hS hR (Yld.pickF hS rfl rfl) (by decide) ?_; clear hS; intro aa hS
    refine sA hS hR (Yld.move hS rfl) (by decide) ?_; clear hS; intro aa hS
    refine sAg hS hR rfl rfl (Yld.move hS rfl) (by decide) ?_; clear hS; intro aa hS
    refine sBg hS rfl rfl (BbuildSlice hS hR rfl (bls27_0_) (by decide) ?_); clear hS hR; intro aa ww bb80 hS hR
    replace hR := hR.pk (r := blk bb80 _ _) (by repeat (first | with_reducible exact Pk.here | with_reducible apply Pk.there))
    replace hR := Sep.toRecs (m := 0) (sz := 1) (enc := e1) (([] : List Int)) hR rfl (by intro _; rfl) rfl
    refine sAg hS hR rfl rfl (Yld.move hS rfl) (by decide) ?_; clear hS; intro aa hS
    refine sBg hS rfl rfl (BappendR (sz := 1) hS hR rfl rfl Try.underlying27 info3 rfl rfl (by rfl) (by repeat (first | with_reducible exact Pk.here | with_reducible apply Pk.there)) (XC.all (by repeat (first | with_reducible exact Pk.here | with_reducible apply Pk.there))) (by intro _; rfl) (by show (_ + _) * 8 ≤ _; first | omega | (simp only [List.length_take, List.length_append, List.length_drop, List.length_cons, List.length_nil, List.length_map]; omega)) (by first | omega | (simp only [List.length_take, List.length_append, List.length_drop, List.length_cons, List.length_nil, List.length_map]; omega)) (by first | rfl | (simp; done) | (simp; omega)) (by decide) ?_); clear hS hR; intro aa ww r82 c82 hS hR
    refine sAg hS hR rfl rfl (Yld.move hS rfl) (by decide) ?_; clear hS; intro aa hS
    refine sBg hS rfl rfl (BbuildSlice hS hR rfl (bls27_1_0 _) (by decide) ?_); clear hS hR; intro aa ww bb84 hS hR
    replace hR := hR.pk (r := blk bb84 _ _) (by repeat (first | with_reducible exact Pk.here | with_reducible apply Pk.there))
    replace hR := Sep.toRecs (m := 1) (sz := 1) (enc := e1) ([(s : Int)]) hR rfl (by intro _; rfl) rfl
    refine sBg hS rfl rfl (BappendR (sz := 1) hS hR rfl rfl Try.underlying27 info3 rfl rfl (by rfl) (by repeat (first | with_reducible exact Pk.here | with_reducible apply Pk.there)) (XC.all (by repeat (first | with_reducible exact Pk.here | with_reducible apply Pk.there))) (by intro _; rfl) (by show (_ + _) * 8 ≤ _; first | omega | (simp only [List.length_take, List.length_append, List.length_drop, List.length_cons, List.length_nil, List.length_map]; omega)) (by first | omega | (simp only [List.length_take, List.length_append, List.length_drop, List.length_cons, List.length_nil, List.length_map]; omega)) (by first | rfl | (simp; done) | (simp; omega)) (by decide) ?_); clear hS hR; intro aa ww r85 c85 hS hR
    have hcat : ([] : List Int) ++ cst (ord.erase s) ++ [(s : Int)] = cst (ord.erase s ++ [s]) := by simp [cst]
    rw [hcat] at hS hR
    refine sBg hS rfl rfl (Bcall hS rfl Try.call14 (SameInts_ok hR (xs := cst (ord.erase s ++ [s])) (ys := cst (ord.erase s ++ [s])) (hR.intsSls (r := rb) (by repeat (first | with_reducible exact Pk.here | with_reducible apply Pk.there))) (hR.intsSls (r := r85) (by repeat (first | with_reducible exact Pk.here | with_reducible apply Pk.there))) (by omega) (by omega)) (by decide) ?_); clear hS; intro aa ww vv hS hp
    clear hR
    obtain ⟨rfl, hR⟩ := hp
    replace hS := hS.sayB (t := 86) true rfl (by simp)
    refine sAg hS hR rfl rfl (Yld.not hS rfl) (by decide) ?_; clear hS; intro aa hS
    refine sA hS hR (Yld.pickF hS rfl rfl) (by decide) ?_; clear hS; intro aa hS
    refine wpList_nil ?_
    refine hK337 _ _ ?_
    refine condF hS rfl ?_
    refine wp_skip ?_
    refine hK336 _ _ ?_
    refine wp_seq_k ?_; intro K338 hK338
    refine wp_region_lit ?_
    refine sA hS hR (Yld.move hS rfl) (by decide) ?_; clear hS; intro aa hS
    refine sA hS hR (Yld.move hS rfl) (by decide) ?_; clear hS; intro aa hS
    refine sB (Bcall hS rfl Try.call13 (lrOut_ok (i := (s : Int)) (hR.pk (r := lruA _ _ _ _ _ _ _ _ _) (by repeat (first | with_reducible exact Pk.here | with_reducible apply Pk.there)))) (by decide) ?_); clear hS; intro aa ww vv hS hp
    clear hR
    obtain ⟨rfl, hR⟩ := hp
    rw [lout_E hs, if_pos (by simp)] at hS
    rw [lout_O hs, erase_end hLI.nd] at hR
    refine sA hS hR (Yld.assign hS rfl) (by decide) ?_; clear hS; intro aa hS
    refine wpList_nil ?_
    refine hK338 _ _ ?_
    refine wp_seq_k ?_; intro K339 hK339
    refine wp_region_lit ?_
    refine sA hS hR (Yld.move hS rfl) (by decide) ?_; clear hS; intro aa hS
    refine sA hS hR (Yld.move hS rfl) (by decide) ?_; clear hS; intro aa hS
    refine sB (Bcall hS rfl Try.call13 (lrOut_ok (i := (s : Int)) (hR.pk (r := lruA _ _ _ _ _ _ _ _ _) (by repeat (first | with_reducible exact Pk.here | with_reducible apply Pk.there)))) (by decide) ?_); clear hS; intro aa ww vv hS hp
    clear hR
    obtain ⟨rfl, hR⟩ := hp
    rw [lout_E hs, if_neg (erase_no hLI.nd)] at hS
    rw [lout_O hs, List.erase_of_not_mem (erase_no hLI.nd)] at hR
    refine sA hS hR (Yld.assign hS rfl) (by decide) ?_; clear hS; intro aa hS
    refine wpList_nil ?_
    refine hK339 _ _ ?_
    refine wp_seq_k ?_; intro K340 hK340
    refine wp_region_lit ?_
    refine sA hS hR (Yld.move hS rfl) (by decide) ?_; clear hS; intro aa hS
    refine sA hS hR (Yld.eql hS rfl rfl) (by decide) ?_; clear hS; intro aa hS
    replace hS := hS.sayB (t := 96) true rfl (by decide)
    refine sA hS hR (Yld.move hS rfl) (by decide) ?_; clear hS; intro aa hS
    refine sAg hS hR rfl rfl (Yld.move hS rfl) (by decide) ?_; clear hS; intro aa hS
    refine sAg hS hR rfl rfl (Yld.eql hS rfl rfl) (by decide) ?_; clear hS; intro aa hS
    replace hS := hS.sayB (t := 99) true rfl (by decide)
    refine sA hS hR (Yld.pickT hS rfl rfl) (by decide) ?_; clear hS; intro aa hS
    refine sA hS hR (Yld.move hS rfl) (by decide) ?_; clear hS; intro aa hS
    refine sAg hS hR rfl rfl (Yld.move hS rfl) (by decide) ?_; clear hS; intro aa hS
    refine sBg hS rfl rfl (Bcall hS rfl Try.call11 (lrAll_ok  (hR.pk (r := lruA _ _ _ _ _ _ _ _ _) (by repeat (first | with_reducible exact Pk.here | with_reducible apply Pk.there)))) (by decide) ?_); clear hS; intro aa ww vv hS hp
    clear hR
    obtain ⟨rc, crc, rfl, hR⟩ := hp
    refine sAg hS hR rfl rfl (Yld.move hS rfl) (by decide) ?_; clear hS; intro aa hS
    refine sBg hS rfl rfl (Bcall hS rfl Try.call14 (SameInts_ok hR (xs := cst (ord.erase s)) (ys := cst (ord.erase s)) (hR.intsSls (r := rc) (by repeat (first | with_reducible exact Pk.here | with_reducible apply Pk.there))) (hR.intsSls (r := r0) (by repeat (first | with_reducible exact Pk.here | with_reducible apply Pk.there))) (by omega) (by omega)) (by decide) ?_); clear hS; intro aa ww vv hS hp
    clear hR
    obtain ⟨rfl, hR⟩ := hp
    replace hS := hS.sayB (t := 105) true rfl (by simp)
    refine sA hS hR (Yld.pickT hS rfl rfl) (by decide) ?_; clear hS; intro aa hS
    refine sA hS hR (Yld.move hS rfl) (by decide) ?_; clear hS; intro aa hS
    refine sAg hS hR rfl rfl (Yld.move hS rfl) (by decide) ?_; clear hS; intro aa hS
    refine sBg hS rfl rfl (Bcall hS rfl Try.call18 (lrNow_ok (hR.pk (r := lruA _ _ _ _ _ _ _ _ _) (by repeat (first | with_reducible exact Pk.here | with_reducible apply Pk.there)))) (by decide) ?_); clear hS; intro aa ww vv hS hp
    clear hR
    obtain ⟨rfl, hR⟩ := hp
    refine sAg hS hR rfl rfl (Yld.move hS rfl) (by decide) ?_; clear hS; intro aa hS
    refine sAg hS hR rfl rfl ((by first | exact Yld.add64 hS rfl rfl (by omega) | exact Yld.add hS rfl rfl)) (by decide) ?_; clear hS; intro aa hS
    refine sAg hS hR rfl rfl (Yld.eql hS rfl rfl) (by decide) ?_; clear hS; intro aa hS
    replace hS := hS.sayB (t := 112) true rfl (by simp)
    refine sA hS hR (Yld.pickT hS rfl rfl) (by decide) ?_; clear hS; intro aa hS
    refine sA hS hR (Yld.move hS rfl) (by decide) ?_; clear hS; intro aa hS
    refine sBg hS rfl rfl (Bcall hS rfl Try.call16 (awake_ok hR) (by decide) ?_); clear hS; intro aa ww vv hS hp
    clear hR
    obtain ⟨rfl, hR⟩ := hp
    refine sA hS hR (Yld.pickT hS rfl rfl) (by decide) ?_; clear hS; intro aa hS
    refine sA hS hR (Yld.assign hS rfl) (by decide) ?_; clear hS; intro aa hS
    refine wpList_nil ?_
    refine hK340 _ _ ?_
    refine wp_ret ?_
    repeat (first | with_reducible refine thenR ?_ | with_reducible refine blockR ?_ | with_reducible refine scopeR ?_)
    refine ret1 (fn := Try.f9) (e := .ret) (.inl rfl) Try.results9 hS hR ⟨_, (.tmp rfl), ?_⟩
    exact ⟨rfl, (hR.sub (by repeat (first | with_reducible exact Ex.refl | (with_reducible apply Ex.take; · repeat (first | with_reducible exact Pk.here | with_reducible apply Pk.there)) | with_reducible apply Ex.drop)))⟩
end Go.Proofs.Ytojeibjlkbffcaa.Sx
