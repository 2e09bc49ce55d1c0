/-
  
-/
import Derived.Test.YtojeibjlkbffcaaLsB
namespace Go.Proofs.Ytojeibjlkbffcaa.Sx
open Go
set_option linter.unusedVariables false
set_option linter.unusedSimpArgs false



set_option maxHeartbeats 4000000 in
set_option maxRecDepth 20000 in
theorem LruWrong_ok {W : World} {q : Option Addr} {n c : Nat} {xs : List (List Int)} (A1 : ArgS W [.u8] q n c xs) {n0 : Int} {l : List HP} {w : World} (hR : Sep (old W :: l) w) : CallR Try.prog 5 [.slice q n c, .int .i64 n0] w (fun v w' => v = .bool true ∧ Sep (old W :: l) w') := by
  refine enter Try.func5 rfl Try.ntmps5 (Nat.le_of_ble_eq_true rfl) ?_; intro aa hS
  have hcap := A1.cap
  refine wp_seq_k ?_; intro K291 hK291
  refine wp_region_lit ?_
  refine sA hS hR (Yld.assign hS rfl) (by decide) ?_; clear hS; intro aa hS
  refine wpList_nil ?_
  refine hK291 _ _ ?_
  refine wp_seq_k ?_; intro K292 hK292
  refine wp_region_lit ?_
  refine sA hS hR (Yld.move hS rfl) (by decide) ?_; clear hS; intro aa hS
  refine sB (Bcall hS rfl Try.call10 (seen_ok A1 hR) (by decide) ?_); clear hS; intro aa ww vv hS hp
  clear hR
  obtain ⟨b, ord, T, now, tm, rfl, hLI, hn0, hn1, hR⟩ := hp
  have hol := hLI.len
  refine sA hS hR (Yld.move hS rfl) (by decide) ?_; clear hS; intro aa hS
  refine sA hS hR (Yld.extract hS rfl rfl) (by decide) ?_; clear hS; intro aa hS
  refine sA hS hR (Yld.extract hS rfl rfl) (by decide) ?_; clear hS; intro aa hS
  refine sA hS hR (Yld.extract hS rfl rfl) (by decide) ?_; clear hS; intro aa hS
  refine sB (Balloc hS hR info24 (by rfl) (by rfl) (by decide) ?_); clear hS hR; intro aa ww bb6 hS hR
  refine sA hS hR (Yld.assign hS rfl) (by decide) ?_; clear hS; intro aa hS
  refine sB (Bstore hS hR rfl rfl (by rfl) info24 (by rfl) (by repeat (first | with_reducible exact Pk.here | with_reducible apply Pk.there)) (by rfl) (Nat.le_of_ble_eq_true rfl) ?_); clear hR; intro ww hR
  replace hR := hR.pk (r := blk bb6 _ _) (by repeat (first | with_reducible exact Pk.here | with_reducible apply Pk.there))
  change Sep (blk bb6 ((tab 16 tm).flatMap e1) 24 :: _) _ at hR
  refine sA hS hR (Yld.assign hS rfl) (by decide) ?_; clear hS; intro aa hS
  refine wpList_nil ?_
  refine hK292 _ _ ?_
  refine wp_seq_k ?_; intro K293 hK293
  refine wp_seq_k ?_; intro K294 hK294
  refine wp_region_lit ?_
  refine sA hS hR (Yld.move hS rfl) (by decide) ?_; clear hS; intro aa hS
  refine sA hS hR (Yld.not hS rfl) (by decide) ?_; clear hS; intro aa hS
  replace hS := hS.sayB (t := 26) false rfl (by rfl)
  refine wpList_nil ?_
  refine hK294 _ _ ?_
  refine condF hS rfl ?_
  refine wp_skip ?_
  refine hK293 _ _ ?_
  refine wp_seq_k ?_; intro K295 hK295
  refine wp_region_lit ?_
  refine sA hS hR (Yld.move hS rfl) (by decide) ?_; clear hS; intro aa hS
  refine sB (Bcall hS rfl Try.call11 (lrAll_ok  (hR.pk (r := lruA _ _ _ _ _ _ _ _ _) (by repeat (first | with_reducible exact Pk.here | with_reducible apply Pk.there)))) (by decide) ?_); clear hS; intro aa ww vv hS hp
  clear hR
  obtain ⟨ra, cra, rfl, hR⟩ := hp
  have hcl := cst_len (l := ord)
  refine sA hS hR (Yld.move hS rfl) (by decide) ?_; clear hS; intro aa hS
  refine sB (Bcall hS rfl Try.call18 (lrNow_ok (hR.pk (r := lruA _ _ _ _ _ _ _ _ _) (by repeat (first | with_reducible exact Pk.here | with_reducible apply Pk.there)))) (by decide) ?_); clear hS; intro aa ww vv hS hp
  clear hR
  obtain ⟨rfl, hR⟩ := hp
  refine sA hS hR (Yld.assign hS rfl) (by decide) ?_; clear hS; intro aa hS
  refine sA hS hR (Yld.assign hS rfl) (by decide) ?_; clear hS; intro aa hS
  refine wpList_nil ?_
  refine hK295 _ _ ?_
  refine wp_seq_k ?_; intro K296 hK296
  refine wp_seq_k ?_; intro K297 hK297
  refine wp_region_lit ?_
  refine sA hS hR (Yld.move hS rfl) (by decide) ?_; clear hS; intro aa hS
  refine sA hS hR (Yld.min hS rfl rfl) (by decide) ?_; clear hS; intro aa hS
  refine sA hS hR (Yld.move hS rfl) (by decide) ?_; clear hS; intro aa hS
  refine sA hS hR (Yld.max hS rfl rfl) (by decide) ?_; clear hS; intro aa hS
  refine sB (BbuildSlice hS hR rfl (bls27_2_0_1 _ _) (by decide) ?_); clear hS hR; intro aa ww bb35 hS hR
  replace hR := hR.pk (r := blk bb35 _ _) (by repeat (first | with_reducible exact Pk.here | with_reducible apply Pk.there))
  replace hR := Sep.toRecs (m := 2) (sz := 1) (enc := e1) [min n0 (-1), max n0 16] hR rfl (by intro _; rfl) rfl
  refine sA hS hR (Yld.len hS rfl Try.underlying27) (by decide) ?_; clear hS; intro aa hS
  refine sA hS hR (Yld.move hS rfl) (by decide) ?_; clear hS; intro aa hS
  refine wpList_nil ?_
  refine hK297 _ _ ?_
  refine wp_block ?_
  refine loopI (X := Nat) [(5, _), (6, _), (8, _), (9, _), (35, _), (36, _)] (fun x => [(37, .int .i64 (x : Int))]) (fun x => []) _ (fun x => x ≤ 2) (fun x => 2 - x) 0 (Nat.zero_le _) (hS.le (Le.cons rfl (Le.nilapp (Le.cons rfl (Le.cons rfl (Le.cons rfl (Le.cons rfl (Le.cons rfl (Le.cons rfl (Le.nil _)))))))))) hR ?_
  clear hS hR; rintro i aa ww hI hS hR; dsimp only [List.cons_append, List.nil_append] at hI hS hR
  refine wp_seq_k ?_; intro K299 hK299
  refine wp_region_lit ?_
  refine sA hS hR (Yld.lss hS rfl rfl) (by decide) ?_; clear hS; intro aa hS
  refine wpList_nil ?_
  refine hK299 _ _ ?_
  refine wp_seq_k ?_; intro K300 hK300
  refine hS.splitB (t := 38) rfl ?_ ?_ <;> clear hS
  · intro hg hS
    have hi2 : i < ([min n0 (-1), max n0 16] : List Int).length := by show i < 2; omega
    refine condT hS rfl ?_
    refine wp_skip ?_
    refine hK300 _ _ ?_
    refine wp_seq_k ?_; intro K301 hK301
    refine wp_block ?_
    refine wp_seq_k ?_; intro K302 hK302
    refine wp_region_lit ?_
    refine sA hS hR ((by first | exact Yld.indexH (sz := 1) (i) hS rfl rfl Try.underlying27 info3 (by assumption) rfl (by first | rfl | omega) (by omega) | exact Yld.indexL (sz := 1) (i) hS rfl rfl Try.underlying27 info3 (by repeat (first | with_reducible exact Pk.here | with_reducible apply Pk.there)) rfl (by first | rfl | omega) (by omega) | exact Yld.indexB (sz := 1) (i) hS rfl rfl Try.underlying27 info3 rfl (by first | rfl | omega) (by omega))) (by decide) ?_; clear hS; intro aa hS
    refine sA hS hR (Yld.load1 hS rfl Try.underlying3 rfl (Rd.rec0 (k := i) (xs := [min n0 (-1), max n0 16]) (by repeat (first | with_reducible exact Pk.here | with_reducible apply Pk.there)) (by intro _; rfl) hi2 (by rfl))) (by decide) ?_; clear hS; intro aa hS
    obtain ⟨sv, hsv⟩ : ∃ y, ([min n0 (-1), max n0 16] : List Int)[i]'hi2 = y := ⟨_, rfl⟩
    have hout := two_out16 (n := n0) (i := i) hi2
    rw [hsv] at hout
    replace hS := hS.say (t := 40) (.int .i64 sv) rfl (by rw [hsv])
    refine sA hS hR (Yld.assign hS rfl) (by decide) ?_; clear hS; intro aa hS
    refine wpList_nil ?_
    refine hK302 _ _ ?_
    refine wp_seq_k ?_; intro K303 hK303
    refine wp_region_lit ?_
    refine sA hS hR (Yld.move hS rfl) (by decide) ?_; clear hS; intro aa hS
    refine sA hS hR (Yld.move hS rfl) (by decide) ?_; clear hS; intro aa hS
    refine sB (Bcall hS rfl Try.call19 (lrSee_ok (i := sv) (hR.pk (r := lruA _ _ _ _ _ _ _ _ _) (by repeat (first | with_reducible exact Pk.here | with_reducible apply Pk.there))) (by omega)) (by decide) ?_); clear hS; intro aa ww vv hS hp
    clear hR
    obtain ⟨rfl, hR⟩ := hp
    rw [see_outV hout] at hS
    rw [see_outO hout, see_outT hout, see_outN hout] at hR
    refine sA hS hR (Yld.move hS rfl) (by decide) ?_; clear hS; intro aa hS
    refine sA hS hR (Yld.extract hS rfl rfl) (by decide) ?_; clear hS; intro aa hS
    refine sA hS hR (Yld.extract hS rfl rfl) (by decide) ?_; clear hS; intro aa hS
    refine sA hS hR (Yld.assign hS rfl) (by decide) ?_; clear hS; intro aa hS
    refine sA hS hR (Yld.assign hS rfl) (by decide) ?_; clear hS; intro aa hS
    refine wpList_nil ?_
    refine hK303 _ _ ?_
    refine wp_seq_k ?_; intro K304 hK304
    refine wp_region_lit ?_
    refine sA hS hR (Yld.move hS rfl) (by decide) ?_; clear hS; intro aa hS
    refine sA hS hR (Yld.move hS rfl) (by decide) ?_; clear hS; intro aa hS
    refine sB (Bcall hS rfl Try.call20 (lrWhen_ok (i := sv) (hR.pk (r := lruA _ _ _ _ _ _ _ _ _) (by repeat (first | with_reducible exact Pk.here | with_reducible apply Pk.there)))) (by decide) ?_); clear hS; intro aa ww vv hS hp
    clear hR
    obtain ⟨rfl, hR⟩ := hp
    rw [when_out hout] at hS
    refine sA hS hR (Yld.move hS rfl) (by decide) ?_; clear hS; intro aa hS
    refine sA hS hR (Yld.extract hS rfl rfl) (by decide) ?_; clear hS; intro aa hS
    refine sA hS hR (Yld.extract hS rfl rfl) (by decide) ?_; clear hS; intro aa hS
    replace hS := hS.sayB (t := 52) false rfl (by rfl)
    refine sA hS hR (Yld.assign hS rfl) (by decide) ?_; clear hS; intro aa hS
    refine sA hS hR (Yld.assign hS rfl) (by decide) ?_; clear hS; intro aa hS
    refine wpList_nil ?_
    refine hK304 _ _ ?_
    refine wp_seq_k ?_; intro K305 hK305
    refine wp_region_lit ?_
    refine sA hS hR (Yld.move hS rfl) (by decide) ?_; clear hS; intro aa hS
    refine sA hS hR (Yld.neq hS rfl rfl) (by decide) ?_; clear hS; intro aa hS
    replace hS := hS.sayB (t := 54) false rfl (by decide)
    refine sA hS hR (Yld.move hS rfl) (by decide) ?_; clear hS; intro aa hS
    refine sAg hS hR rfl rfl (Yld.move hS rfl) (by decide) ?_; clear hS; intro aa hS
    refine sAg hS hR rfl rfl (Yld.neq hS rfl rfl) (by decide) ?_; clear hS; intro aa hS
    replace hS := hS.sayB (t := 57) false rfl (by decide)
    refine sA hS hR (Yld.pickF hS rfl rfl) (by decide) ?_; clear hS; intro aa hS
    refine sA hS hR (Yld.move hS rfl) (by decide) ?_; clear hS; intro aa hS
    refine sAg hS hR rfl rfl (Yld.move hS rfl) (by decide) ?_; clear hS; intro aa hS
    refine sAg hS hR rfl rfl (Yld.move hS rfl) (by decide) ?_; clear hS; intro aa hS
    refine sBg hS rfl rfl (Bcall hS rfl Try.call13 (lrOut_ok (i := sv) (hR.pk (r := lruA _ _ _ _ _ _ _ _ _) (by repeat (first | with_reducible exact Pk.here | with_reducible apply Pk.there)))) (by decide) ?_); clear hS; intro aa ww vv hS hp
    clear hR
    obtain ⟨rfl, hR⟩ := hp
    rw [lout_outE hout] at hS
    rw [lout_outO hout] at hR
    refine sAg hS hR rfl rfl (Yld.neq hS rfl rfl) (by decide) ?_; clear hS; intro aa hS
    replace hS := hS.sayB (t := 63) false rfl (by decide)
    refine sA hS hR (Yld.pickF hS rfl rfl) (by decide) ?_; clear hS; intro aa hS
    refine sA hS hR (Yld.move hS rfl) (by decide) ?_; clear hS; intro aa hS
    refine sAg hS hR rfl rfl (Yld.move hS rfl) (by decide) ?_; clear hS; intro aa hS
    refine sA hS hR (Yld.pickF hS rfl rfl) (by decide) ?_; clear hS; intro aa hS
    refine wpList_nil ?_
    refine hK305 _ _ ?_
    refine condF hS rfl ?_
    refine wp_skip ?_
    refine hK301 _ _ ?_
    refine wp_region_lit ?_
    refine sA hS hR ((by first | exact Yld.add64 hS rfl rfl (by omega) | exact Yld.add hS rfl rfl)) (by decide) ?_; clear hS; intro aa hS
    refine sA hS hR (Yld.move hS rfl) (by decide) ?_; clear hS; intro aa hS
    refine wpList_nil ?_
    
    refine ⟨i + 1, ?_, ?_, hS.le (Le.cons rfl (Le.nilapp (Le.cons rfl (Le.cons rfl (Le.cons rfl (Le.cons rfl (Le.cons rfl (Le.cons rfl (Le.nil _))))))))), hR.sub (Ex.nilapp (by repeat (first | with_reducible exact Ex.refl | (with_reducible apply Ex.take; · repeat (first | with_reducible exact Pk.here | with_reducible apply Pk.there)) | with_reducible apply Ex.drop)))⟩
    · omega
    · omega
  · intro hg hS
    refine condF hS rfl ?_
    refine wp_exit ?_
    refine hK296 _ _ ?_
    refine wp_seq_k ?_; intro K306 hK306
    refine wp_seq_k ?_; intro K307 hK307
    refine wp_region_lit ?_
    refine sA hS hR (Yld.move hS rfl) (by decide) ?_; clear hS; intro aa hS
    refine wpList_nil ?_
    refine hK307 _ _ ?_
    refine wp_block ?_
    refine loopI (X := Nat) [(5, _), (6, _), (8, _), (9, _)] (fun x => [(69, .int .i64 (x : Int))]) (fun x => []) _ (fun x => x ≤ 16) (fun x => 16 - x) 0 (Nat.zero_le _) (hS.le (Le.cons rfl (Le.nilapp (Le.cons rfl (Le.cons rfl (Le.cons rfl (Le.cons rfl (Le.nil _)))))))) hR ?_
    clear hS hR; rintro i aa ww hI hS hR; dsimp only [List.cons_append, List.nil_append] at hI hS hR
    refine wp_seq_k ?_; intro K309 hK309
    refine wp_region_lit ?_
    refine sA hS hR (Yld.lss hS rfl rfl) (by decide) ?_; clear hS; intro aa hS
    refine wpList_nil ?_
    refine hK309 _ _ ?_
    refine wp_seq_k ?_; intro K310 hK310
    refine hS.splitB (t := 70) rfl ?_ ?_ <;> clear hS
    · intro hg hS
      have hi16 : i < 16 := by omega
      refine condT hS rfl ?_
      refine wp_skip ?_
      refine hK310 _ _ ?_
      refine wp_seq_k ?_; intro K311 hK311
      refine wp_block ?_
      refine wp_seq_k ?_; intro K312 hK312
      refine wp_region_lit ?_
      refine sA hS hR (Yld.move hS rfl) (by decide) ?_; clear hS; intro aa hS
      refine sA hS hR (Yld.assign hS rfl) (by decide) ?_; clear hS; intro aa hS
      refine wpList_nil ?_
      refine hK312 _ _ ?_
      refine wp_seq_k ?_; intro K313 hK313
      refine wp_region_lit ?_
      refine sA hS hR (Yld.move hS rfl) (by decide) ?_; clear hS; intro aa hS
      refine sA hS hR (Yld.move hS rfl) (by decide) ?_; clear hS; intro aa hS
      by_cases hn : i ∈ ord
      ·
        refine sB (Bcall hS rfl Try.call20 (lrWhen_ok (i := (i : Int)) (hR.pk (r := lruA _ _ _ _ _ _ _ _ _) (by repeat (first | with_reducible exact Pk.here | with_reducible apply Pk.there)))) (by decide) ?_); clear hS; intro aa ww vv hS hp
        clear hR
        obtain ⟨rfl, hR⟩ := hp
        rw [when_in hi16 hn] at hS
        have hp := (hLI.pos hi16).1 hn
        refine sA hS hR (Yld.move hS rfl) (by decide) ?_; clear hS; intro aa hS
        refine sA hS hR (Yld.extract hS rfl rfl) (by decide) ?_; clear hS; intro aa hS
        refine sA hS hR (Yld.extract hS rfl rfl) (by decide) ?_; clear hS; intro aa hS
        refine sA hS hR (Yld.assign hS rfl) (by decide) ?_; clear hS; intro aa hS
        refine sA hS hR (Yld.assign hS rfl) (by decide) ?_; clear hS; intro aa hS
        refine wpList_nil ?_
        refine hK313 _ _ ?_
        refine wp_seq_k ?_; intro K314 hK314
        refine wp_region_lit ?_
        refine sA hS hR (Yld.move hS rfl) (by decide) ?_; clear hS; intro aa hS
        refine sA hS hR (Yld.move hS rfl) (by decide) ?_; clear hS; intro aa hS
        refine sA hS hR (Yld.to (u := .pointer (some ⟨bb6, i, none⟩)) (Yld.indexArr hS rfl rfl Try.underlying24 info3 (by omega) (by omega)) (by have h1 : (Try.t3).size = 1 := rfl; rw [h1]; congr 3; omega)) (by decide) ?_; clear hS; intro aa hS
        refine sA hS hR (Yld.load1 hS rfl Try.underlying3 rfl (Rd.blk (v := .int .i64 (tm i)) (by repeat (first | with_reducible exact Pk.here | with_reducible apply Pk.there)) (tab_flat (by omega)))) (by decide) ?_; clear hS; intro aa hS
        refine sA hS hR (Yld.gtr hS rfl rfl) (by decide) ?_; clear hS; intro aa hS
        replace hS := hS.sayB (t := 82) true rfl (by exact decide_eq_true (by omega))
        refine sA hS hR (Yld.neqB hS rfl rfl Try.underlying4) (by decide) ?_; clear hS; intro aa hS
        replace hS := hS.sayB (t := 83) false rfl (by rfl)
        refine sA hS hR (Yld.move hS rfl) (by decide) ?_; clear hS; intro aa hS
        refine sAg hS hR rfl rfl (Yld.move hS rfl) (by decide) ?_; clear hS; intro aa hS
        refine sAg hS hR rfl rfl (Yld.not hS rfl) (by decide) ?_; clear hS; intro aa hS
        replace hS := hS.sayB (t := 86) false rfl (by rfl)
        refine sAg hS hR rfl rfl (Yld.move hS rfl) (by decide) ?_; clear hS; intro aa hS
        refine sSkip hS rfl rfl rfl (by decide) ?_; clear hS; intro aa hS
        refine sSkip hS rfl rfl rfl (by decide) ?_; clear hS; intro aa hS
        refine sSkip hS rfl rfl rfl (by decide) ?_; clear hS; intro aa hS
        refine sSkip hS rfl rfl rfl (by decide) ?_; clear hS; intro aa hS
        refine sAg hS hR rfl rfl (Yld.pickF hS rfl rfl) (by decide) ?_; clear hS; intro aa hS
        refine sA hS hR (Yld.pickF hS rfl rfl) (by decide) ?_; clear hS; intro aa hS
        refine wpList_nil ?_
        refine hK314 _ _ ?_
        refine condF hS rfl ?_
        refine wp_skip ?_
        refine hK311 _ _ ?_
        refine wp_region_lit ?_
        refine sA hS hR ((by first | exact Yld.add64 hS rfl rfl (by omega) | exact Yld.add hS rfl rfl)) (by decide) ?_; clear hS; intro aa hS
        refine sA hS hR (Yld.move hS rfl) (by decide) ?_; clear hS; intro aa hS
        refine wpList_nil ?_
        
        refine ⟨i + 1, ?_, ?_, hS.le (Le.cons rfl (Le.nilapp (Le.cons rfl (Le.cons rfl (Le.cons rfl (Le.cons rfl (Le.nil _))))))), hR.sub (Ex.nilapp (by repeat (first | with_reducible exact Ex.refl | (with_reducible apply Ex.take; · repeat (first | with_reducible exact Pk.here | with_reducible apply Pk.there)) | with_reducible apply Ex.drop)))⟩
        · omega
        · omega
      ·
        refine sB (Bcall hS rfl Try.call20 (lrWhen_ok (i := (i : Int)) (hR.pk (r := lruA _ _ _ _ _ _ _ _ _) (by repeat (first | with_reducible exact Pk.here | with_reducible apply Pk.there)))) (by decide) ?_); clear hS; intro aa ww vv hS hp
        clear hR
        obtain ⟨rfl, hR⟩ := hp
        rw [when_no hn] at hS
        have hp := hLI.tm0 i hi16 hn
        refine sA hS hR (Yld.move hS rfl) (by decide) ?_; clear hS; intro aa hS
        refine sA hS hR (Yld.extract hS rfl rfl) (by decide) ?_; clear hS; intro aa hS
        refine sA hS hR (Yld.extract hS rfl rfl) (by decide) ?_; clear hS; intro aa hS
        refine sA hS hR (Yld.assign hS rfl) (by decide) ?_; clear hS; intro aa hS
        refine sA hS hR (Yld.assign hS rfl) (by decide) ?_; clear hS; intro aa hS
        refine wpList_nil ?_
        refine hK313 _ _ ?_
        refine wp_seq_k ?_; intro K315 hK315
        refine wp_region_lit ?_
        refine sA hS hR (Yld.move hS rfl) (by decide) ?_; clear hS; intro aa hS
        refine sA hS hR (Yld.move hS rfl) (by decide) ?_; clear hS; intro aa hS
        refine sA hS hR (Yld.to (u := .pointer (some ⟨bb6, i, none⟩)) (Yld.indexArr hS rfl rfl Try.underlying24 info3 (by omega) (by omega)) (by have h1 : (Try.t3).size = 1 := rfl; rw [h1]; congr 3; omega)) (by decide) ?_; clear hS; intro aa hS
        refine sA hS hR (Yld.load1 hS rfl Try.underlying3 rfl (Rd.blk (v := .int .i64 (tm i)) (by repeat (first | with_reducible exact Pk.here | with_reducible apply Pk.there)) (tab_flat (by omega)))) (by decide) ?_; clear hS; intro aa hS
        refine sA hS hR (Yld.gtr hS rfl rfl) (by decide) ?_; clear hS; intro aa hS
        replace hS := hS.sayB (t := 82) false rfl (by exact decide_eq_false (by omega))
        refine sA hS hR (Yld.neqB hS rfl rfl Try.underlying4) (by decide) ?_; clear hS; intro aa hS
        replace hS := hS.sayB (t := 83) false rfl (by rfl)
        refine sA hS hR (Yld.move hS rfl) (by decide) ?_; clear hS; intro aa hS
        refine sAg hS hR rfl rfl (Yld.move hS rfl) (by decide) ?_; clear hS; intro aa hS
        refine sAg hS hR rfl rfl (Yld.not hS rfl) (by decide) ?_; clear hS; intro aa hS
        replace hS := hS.sayB (t := 86) true rfl (by rfl)
        refine sAg hS hR rfl rfl (Yld.move hS rfl) (by decide) ?_; clear hS; intro aa hS
        refine sAg hS hR rfl rfl (Yld.move hS rfl) (by decide) ?_; clear hS; intro aa hS
        refine sAg hS hR rfl rfl (Yld.move hS rfl) (by decide) ?_; clear hS; intro aa hS
        refine sBg hS rfl rfl (Bcall hS rfl Try.call13 (lrOut_ok (i := (i : Int)) (hR.pk (r := lruA _ _ _ _ _ _ _ _ _) (by repeat (first | with_reducible exact Pk.here | with_reducible apply Pk.there)))) (by decide) ?_); clear hS; intro aa ww vv hS hp
        clear hR
        obtain ⟨rfl, hR⟩ := hp
        rw [lout_E hi16, if_neg hn] at hS
        rw [lout_O hi16, List.erase_of_not_mem hn] at hR
        refine sAg hS hR rfl rfl (Yld.neq hS rfl rfl) (by decide) ?_; clear hS; intro aa hS
        replace hS := hS.sayB (t := 91) false rfl (by decide)
        refine sAg hS hR rfl rfl (Yld.pickT hS rfl rfl) (by decide) ?_; clear hS; intro aa hS
        refine sA hS hR (Yld.pickF hS rfl rfl) (by decide) ?_; clear hS; intro aa hS
        refine wpList_nil ?_
        refine hK315 _ _ ?_
        refine condF hS rfl ?_
        refine wp_skip ?_
        refine hK311 _ _ ?_
        refine wp_region_lit ?_
        refine sA hS hR ((by first | exact Yld.add64 hS rfl rfl (by omega) | exact Yld.add hS rfl rfl)) (by decide) ?_; clear hS; intro aa hS
        refine sA hS hR (Yld.move hS rfl) (by decide) ?_; clear hS; intro aa hS
        refine wpList_nil ?_
        
        refine ⟨i + 1, ?_, ?_, hS.le (Le.cons rfl (Le.nilapp (Le.cons rfl (Le.cons rfl (Le.cons rfl (Le.cons rfl (Le.nil _))))))), hR.sub (Ex.nilapp (by repeat (first | with_reducible exact Ex.refl | (with_reducible apply Ex.take; · repeat (first | with_reducible exact Pk.here | with_reducible apply Pk.there)) | with_reducible apply Ex.drop)))⟩
        · omega
        · omega
    · intro hg hS
      refine condF hS rfl ?_
      refine wp_exit ?_
      refine hK306 _ _ ?_
      refine wp_seq_k ?_; intro K316 hK316
      refine wp_region_lit ?_
      refine sA hS hR (Yld.move hS rfl) (by decide) ?_; clear hS; intro aa hS
      refine sB (Bcall hS rfl Try.call11 (lrAll_ok  (hR.pk (r := lruA _ _ _ _ _ _ _ _ _) (by repeat (first | with_reducible exact Pk.here | with_reducible apply Pk.there)))) (by decide) ?_); clear hS; intro aa ww vv hS hp
      clear hR
      obtain ⟨rb, crb, rfl, hR⟩ := hp
      refine sA hS hR (Yld.move hS rfl) (by decide) ?_; clear hS; intro aa hS
      refine sB (Bcall hS rfl Try.call14 (SameInts_ok hR (xs := cst ord) (ys := cst ord) (hR.intsSls (r := rb) (by repeat (first | with_reducible exact Pk.here | with_reducible apply Pk.there))) (hR.intsSls (r := ra) (by repeat (first | with_reducible exact Pk.here | with_reducible apply Pk.there))) (by omega) (by omega)) (by decide) ?_); clear hS; intro aa ww vv hS hp
      clear hR
      obtain ⟨rfl, hR⟩ := hp
      replace hS := hS.sayB (t := 98) true rfl (by simp)
      refine sA hS hR (Yld.move hS rfl) (by decide) ?_; clear hS; intro aa hS
      refine sAg hS hR rfl rfl (Yld.move hS rfl) (by decide) ?_; clear hS; intro aa hS
      refine sBg hS rfl rfl (Bcall hS rfl Try.call18 (lrNow_ok (hR.pk (r := lruA _ _ _ _ _ _ _ _ _) (by repeat (first | with_reducible exact Pk.here | with_reducible apply Pk.there)))) (by decide) ?_); clear hS; intro aa ww vv hS hp
      clear hR
      obtain ⟨rfl, hR⟩ := hp
      refine sAg hS hR rfl rfl (Yld.move hS rfl) (by decide) ?_; clear hS; intro aa hS
      refine sAg hS hR rfl rfl (Yld.eql hS rfl rfl) (by decide) ?_; clear hS; intro aa hS
      replace hS := hS.sayB (t := 103) true rfl (by simp)
      refine sA hS hR (Yld.pickT hS rfl rfl) (by decide) ?_; clear hS; intro aa hS
      refine sA hS hR (Yld.move hS rfl) (by decide) ?_; clear hS; intro aa hS
      refine sBg hS rfl rfl (Bcall hS rfl Try.call16 (awake_ok hR) (by decide) ?_); clear hS; intro aa ww vv hS hp
      clear hR
      obtain ⟨rfl, hR⟩ := hp
      refine sA hS hR (Yld.pickT hS rfl rfl) (by decide) ?_; clear hS; intro aa hS
      refine sA hS hR (Yld.assign hS rfl) (by decide) ?_; clear hS; intro aa hS
      refine wpList_nil ?_
      refine hK316 _ _ ?_
      refine wp_ret ?_
      repeat (first | with_reducible refine thenR ?_ | with_reducible refine blockR ?_ | with_reducible refine scopeR ?_)
      refine ret1 (fn := Try.f5) (e := .ret) (.inl rfl) Try.results5 hS hR ⟨_, (.tmp rfl), ?_⟩
      exact ⟨rfl, (hR.sub (by repeat (first | with_reducible exact Ex.refl | (with_reducible apply Ex.take; · repeat (first | with_reducible exact Pk.here | with_reducible apply Pk.there)) | with_reducible apply Ex.drop)))⟩
end Go.Proofs.Ytojeibjlkbffcaa.Sx
