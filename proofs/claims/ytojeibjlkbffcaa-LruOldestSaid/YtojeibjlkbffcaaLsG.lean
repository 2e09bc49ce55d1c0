/-
  
-/
import Derived.Test.YtojeibjlkbffcaaLsB
import Derived.Test.YtojeibjlkbffcaaLru3
namespace Go.Proofs.Ytojeibjlkbffcaa.Sx
open Go
set_option linter.unusedVariables false
set_option linter.unusedSimpArgs false



set_option maxHeartbeats 4000000 in
set_option maxRecDepth 20000 in
theorem LruOldest_ok {W : World} {q : Option Addr} {n c : Nat} {xs : List (List Int)} (A1 : ArgS W [.u8] q n c xs) {l : List HP} {w : World} (hR : Sep (old W :: l) w) : CallR Try.prog 8 [.slice q n c] w (fun v w' => v = .bool true ∧ Sep (old W :: l) w') := by
  refine enter Try.func8 rfl Try.ntmps8 (Nat.le_of_ble_eq_true rfl) ?_; intro aa hS
  have hcap := A1.cap
  refine wp_seq_k ?_; intro K357 hK357
  refine wp_region_lit ?_
  refine sA hS hR (Yld.assign hS rfl) (by decide) ?_; clear hS; intro aa hS
  refine wpList_nil ?_
  refine hK357 _ _ ?_
  refine wp_seq_k ?_; intro K358 hK358
  refine wp_region_lit ?_
  refine sA hS hR (Yld.move hS rfl) (by decide) ?_; clear hS; intro aa hS
  refine sB (Bcall hS rfl Try.call10 (seen_ok A1 hR) (by decide) ?_); clear hS; intro aa ww vv hS hp
  clear hR
  obtain ⟨b, ord, T, now, tm, rfl, hLI, hn0, hn1, hR⟩ := hp
  have hol := hLI.len
  refine sA hS hR (Yld.move hS rfl) (by decide) ?_; clear hS; intro aa hS
  refine sA hS hR (Yld.extract hS rfl rfl) (by decide) ?_; clear hS; intro aa hS
  refine sA hS hR (Yld.extract hS rfl rfl) (by decide) ?_; clear hS; intro aa hS
  refine sA hS hR (Yld.extract hS rfl rfl) (by decide) ?_; clear hS; intro aa hS
  refine sB (Balloc hS hR info24 (by rfl) (by rfl) (by decide) ?_); clear hS hR; intro aa ww bb4 hS hR
  refine sA hS hR (Yld.assign hS rfl) (by decide) ?_; clear hS; intro aa hS
  refine sB (Bstore hS hR rfl rfl (by rfl) info24 (by rfl) (by repeat (first | with_reducible exact Pk.here | with_reducible apply Pk.there)) (by rfl) (Nat.le_of_ble_eq_true rfl) ?_); clear hR; intro ww hR
  replace hR := hR.pk (r := blk bb4 _ _) (by repeat (first | with_reducible exact Pk.here | with_reducible apply Pk.there))
  change Sep (blk bb4 ((tab 16 tm).flatMap e1) 24 :: _) _ at hR
  refine sA hS hR (Yld.assign hS rfl) (by decide) ?_; clear hS; intro aa hS
  refine wpList_nil ?_
  refine hK358 _ _ ?_
  refine wp_seq_k ?_; intro K359 hK359
  refine wp_seq_k ?_; intro K360 hK360
  refine wp_region_lit ?_
  refine sA hS hR (Yld.move hS rfl) (by decide) ?_; clear hS; intro aa hS
  refine sA hS hR (Yld.not hS rfl) (by decide) ?_; clear hS; intro aa hS
  replace hS := hS.sayB (t := 26) false rfl (by rfl)
  refine wpList_nil ?_
  refine hK360 _ _ ?_
  refine condF hS rfl ?_
  refine wp_skip ?_
  refine hK359 _ _ ?_
  refine wp_seq_k ?_; intro K361 hK361
  refine wp_region_lit ?_
  refine sA hS hR (Yld.move hS rfl) (by decide) ?_; clear hS; intro aa hS
  refine sB (Bcall hS rfl Try.call11 (lrAll_ok  (hR.pk (r := lruA _ _ _ _ _ _ _ _ _) (by repeat (first | with_reducible exact Pk.here | with_reducible apply Pk.there)))) (by decide) ?_); clear hS; intro aa ww vv hS hp
  clear hR
  obtain ⟨ra, cra, rfl, hR⟩ := hp
  have hcl := cst_len (l := ord)
  refine sA hS hR (Yld.assign hS rfl) (by decide) ?_; clear hS; intro aa hS
  refine sA hS hR (Yld.assign hS rfl) (by decide) ?_; clear hS; intro aa hS
  refine sA hS hR (Yld.assign hS rfl) (by decide) ?_; clear hS; intro aa hS
  refine wpList_nil ?_
  refine hK361 _ _ ?_
  refine wp_seq_k ?_; intro K362 hK362
  refine wp_seq_k ?_; intro K363 hK363
  refine wp_region_lit ?_
  refine sA hS hR (Yld.loadAgg hS rfl Try.underlying24 rfl info24 (by first | exact Rds.cons (Rd.blk (by repeat (first | with_reducible exact Pk.here | with_reducible apply Pk.there)) (by rfl)) (Rds.cons (Rd.blk (by repeat (first | with_reducible exact Pk.here | with_reducible apply Pk.there)) (by rfl)) (Rds.cons (Rd.blk (by repeat (first | with_reducible exact Pk.here | with_reducible apply Pk.there)) (by rfl)) (Rds.cons (Rd.blk (by repeat (first | with_reducible exact Pk.here | with_reducible apply Pk.there)) (by rfl)) (Rds.cons (Rd.blk (by repeat (first | with_reducible exact Pk.here | with_reducible apply Pk.there)) (by rfl)) (Rds.cons (Rd.blk (by repeat (first | with_reducible exact Pk.here | with_reducible apply Pk.there)) (by rfl)) (Rds.cons (Rd.blk (by repeat (first | with_reducible exact Pk.here | with_reducible apply Pk.there)) (by rfl)) (Rds.cons (Rd.blk (by repeat (first | with_reducible exact Pk.here | with_reducible apply Pk.there)) (by rfl)) (Rds.cons (Rd.blk (by repeat (first | with_reducible exact Pk.here | with_reducible apply Pk.there)) (by rfl)) (Rds.cons (Rd.blk (by repeat (first | with_reducible exact Pk.here | with_reducible apply Pk.there)) (by rfl)) (Rds.cons (Rd.blk (by repeat (first | with_reducible exact Pk.here | with_reducible apply Pk.there)) (by rfl)) (Rds.cons (Rd.blk (by repeat (first | with_reducible exact Pk.here | with_reducible apply Pk.there)) (by rfl)) (Rds.cons (Rd.blk (by repeat (first | with_reducible exact Pk.here | with_reducible apply Pk.there)) (by rfl)) (Rds.cons (Rd.blk (by repeat (first | with_reducible exact Pk.here | with_reducible apply Pk.there)) (by rfl)) (Rds.cons (Rd.blk (by repeat (first | with_reducible exact Pk.here | with_reducible apply Pk.there)) (by rfl)) (Rds.cons (Rd.blk (by repeat (first | with_reducible exact Pk.here | with_reducible apply Pk.there)) (by rfl)) (Rds.nil)))))))))))))))) | exact Rds.rec (by repeat (first | with_reducible exact Pk.here | with_reducible apply Pk.there)) (by intro _; rfl) (by omega) | exact Rds.flat1 (by repeat (first | with_reducible exact Pk.here | with_reducible apply Pk.there)) (by intro _; rfl) (by omega)) (by rfl)) (by decide) ?_; clear hS; intro aa hS
  refine sA hS hR (Yld.move hS rfl) (by decide) ?_; clear hS; intro aa hS
  refine wpList_nil ?_
  refine hK363 _ _ ?_
  refine wp_block ?_
  refine loopI (X := Nat) [(2, _), (3, _), (4, _), (6, _), (7, _), (29, _)] (fun x => [(8, .int .i64 ((((List.range x).filter fun z => decide (0 < tm z)).length : Nat) : Int)), (30, .int .i64 (x : Int))]) (fun x => []) _ (fun x => x ≤ 16) (fun x => 16 - x) 0 (Nat.zero_le _) (hS.le (Le.cons rfl (Le.cons rfl (Le.nilapp (Le.cons rfl (Le.cons rfl (Le.cons rfl (Le.cons rfl (Le.cons rfl (Le.cons rfl (Le.nil _))))))))))) hR ?_
  clear hS hR; rintro i aa ww hI hS hR; dsimp only [List.cons_append, List.nil_append] at hI hS hR
  refine wp_seq_k ?_; intro K365 hK365
  refine wp_region_lit ?_
  refine sA hS hR (Yld.lss hS rfl rfl) (by decide) ?_; clear hS; intro aa hS
  refine wpList_nil ?_
  refine hK365 _ _ ?_
  refine wp_seq_k ?_; intro K366 hK366
  refine hS.splitB (t := 31) rfl ?_ ?_ <;> clear hS
  · intro hg hS
    have hcb := List.length_filter_le (fun z => decide (0 < tm z)) (List.range i)
    rw [List.length_range] at hcb
    refine condT hS rfl ?_
    refine wp_skip ?_
    refine hK366 _ _ ?_
    refine wp_seq_k ?_; intro K367 hK367
    refine wp_block ?_
    refine wp_seq_k ?_; intro K368 hK368
    refine wp_region_lit ?_
    refine sA hS hR (Yld.indexV hS rfl rfl Try.underlying24 info3 rfl (fun w => by kernel_rfl) (by omega) (show ((tab 16 tm).flatMap e1)[i]? = some (.int .i64 (tm i)) from tab_flat (by omega))) (by decide) ?_; clear hS; intro aa hS
    refine sA hS hR (Yld.assign hS rfl) (by decide) ?_; clear hS; intro aa hS
    refine wpList_nil ?_
    refine hK368 _ _ ?_
    refine wp_seq_k ?_; intro K369 hK369
    refine wp_region_lit ?_
    refine sA hS hR (Yld.move hS rfl) (by decide) ?_; clear hS; intro aa hS
    refine sA hS hR (Yld.gtr hS rfl rfl) (by decide) ?_; clear hS; intro aa hS
    refine wpList_nil ?_
    refine hK369 _ _ ?_
    refine hS.splitB (t := 34) rfl ?_ ?_ <;> clear hS
    · intro hg hS
      refine condT hS rfl ?_
      refine wp_region_lit ?_
      refine sA hS hR (Yld.move hS rfl) (by decide) ?_; clear hS; intro aa hS
      refine sA hS hR ((by first | exact Yld.add64 hS rfl rfl (by omega) | exact Yld.add hS rfl rfl)) (by decide) ?_; clear hS; intro aa hS
      replace hS := hS.say (t := 36) (.int .i64 ((((List.range (i + 1)).filter fun z => decide (0 < tm z)).length : Nat) : Int)) rfl (by rw [count_next, if_pos (by omega)]; rfl)
      refine sA hS hR (Yld.assign hS rfl) (by decide) ?_; clear hS; intro aa hS
      refine wpList_nil ?_
      refine hK367 _ _ ?_
      refine wp_region_lit ?_
      refine sA hS hR ((by first | exact Yld.add64 hS rfl rfl (by omega) | exact Yld.add hS rfl rfl)) (by decide) ?_; clear hS; intro aa hS
      refine sA hS hR (Yld.move hS rfl) (by decide) ?_; clear hS; intro aa hS
      refine wpList_nil ?_
      
      refine ⟨i + 1, ?_, ?_, hS.le (Le.cons rfl (Le.cons rfl (Le.nilapp (Le.cons rfl (Le.cons rfl (Le.cons rfl (Le.cons rfl (Le.cons rfl (Le.cons rfl (Le.nil _)))))))))), hR.sub (Ex.nilapp (by repeat (first | with_reducible exact Ex.refl | (with_reducible apply Ex.take; · repeat (first | with_reducible exact Pk.here | with_reducible apply Pk.there)) | with_reducible apply Ex.drop)))⟩
      · omega
      · omega
    · intro hg hS
      replace hS := hS.say (t := 8) (.int .i64 ((((List.range (i + 1)).filter fun z => decide (0 < tm z)).length : Nat) : Int)) rfl (by rw [count_next, if_neg (by omega), Nat.add_zero])
      refine condF hS rfl ?_
      refine wp_skip ?_
      refine hK367 _ _ ?_
      refine wp_region_lit ?_
      refine sA hS hR ((by first | exact Yld.add64 hS rfl rfl (by omega) | exact Yld.add hS rfl rfl)) (by decide) ?_; clear hS; intro aa hS
      refine sA hS hR (Yld.move hS rfl) (by decide) ?_; clear hS; intro aa hS
      refine wpList_nil ?_
      
      refine ⟨i + 1, ?_, ?_, hS.le (Le.cons rfl (Le.cons rfl (Le.nilapp (Le.cons rfl (Le.cons rfl (Le.cons rfl (Le.cons rfl (Le.cons rfl (Le.cons rfl (Le.nil _)))))))))), hR.sub (Ex.nilapp (by repeat (first | with_reducible exact Ex.refl | (with_reducible apply Ex.take; · repeat (first | with_reducible exact Pk.here | with_reducible apply Pk.there)) | with_reducible apply Ex.drop)))⟩
      · omega
      · omega
  · intro hg hS
    have hi16 : i = 16 := by omega
    rw [hi16, hLI.count] at hS
    refine condF hS rfl ?_
    refine wp_exit ?_
    refine hK362 _ _ ?_
    refine wp_seq_k ?_; intro K370 hK370
    refine wp_seq_k ?_; intro K371 hK371
    refine wp_region_lit ?_
    refine sA hS hR (Yld.move hS rfl) (by decide) ?_; clear hS; intro aa hS
    refine sA hS hR (Yld.len hS rfl Try.underlying27) (by decide) ?_; clear hS; intro aa hS
    refine sA hS hR (Yld.move hS rfl) (by decide) ?_; clear hS; intro aa hS
    refine wpList_nil ?_
    refine hK371 _ _ ?_
    refine wp_block ?_
    refine loopI (X := Nat) [(3, _), (4, _), (6, _), (8, _), (38, _), (39, _)] (fun x => [(7, .int .i64 (lastT ord T x)), (40, .int .i64 (x : Int))]) (fun x => []) _ (fun x => x ≤ ord.length) (fun x => ord.length - x) 0 (Nat.zero_le _) (hS.le (Le.cons rfl (Le.cons rfl (Le.nilapp (Le.cons rfl (Le.cons rfl (Le.cons rfl (Le.cons rfl (Le.cons rfl (Le.cons rfl (Le.nil _))))))))))) hR ?_
    clear hS hR; rintro i aa ww hI hS hR; dsimp only [List.cons_append, List.nil_append] at hI hS hR
    refine wp_seq_k ?_; intro K373 hK373
    refine wp_region_lit ?_
    refine sA hS hR (Yld.lss hS rfl rfl) (by decide) ?_; clear hS; intro aa hS
    refine wpList_nil ?_
    refine hK373 _ _ ?_
    refine wp_seq_k ?_; intro K374 hK374
    refine hS.splitB (t := 41) rfl ?_ ?_ <;> clear hS
    · intro hg hS
      have hio : i < ord.length := by omega
      obtain ⟨x0, hx0⟩ : ∃ y, ord[i] = y := ⟨_, rfl⟩
      have hxm : x0 ∈ ord := by rw [← hx0]; exact List.getElem_mem hio
      have hx16 := hLI.lt x0 hxm
      have htx := hLI.tm1 x0 hxm
      have hxs : ord[i]? = some x0 := by rw [List.getElem?_eq_getElem hio, hx0]
      have hlt := hLI.last hio hx0
      refine condT hS rfl ?_
      refine wp_skip ?_
      refine hK374 _ _ ?_
      refine wp_seq_k ?_; intro K375 hK375
      refine wp_block ?_
      refine wp_seq_k ?_; intro K376 hK376
      refine wp_region_lit ?_
      refine sA hS hR ((by first | exact Yld.indexH (sz := 1) (i) hS rfl rfl Try.underlying27 info3 (by assumption) rfl (by first | rfl | omega) (by omega) | exact Yld.indexL (sz := 1) (i) hS rfl rfl Try.underlying27 info3 (by repeat (first | with_reducible exact Pk.here | with_reducible apply Pk.there)) rfl (by first | rfl | omega) (by omega) | exact Yld.indexB (sz := 1) (i) hS rfl rfl Try.underlying27 info3 rfl (by first | rfl | omega) (by omega))) (by decide) ?_; clear hS; intro aa hS
      refine sA hS hR (Yld.load1 hS rfl Try.underlying3 rfl (Rd.rec0 (k := i) (xs := cst ord) (v := .int .i64 ((x0 : Nat) : Int)) (by repeat (first | with_reducible exact Pk.here | with_reducible apply Pk.there)) (by intro _; rfl) (by omega) (by rw [cst_get]; simp only [hx0]; rfl))) (by decide) ?_; clear hS; intro aa hS
      refine sA hS hR (Yld.assign hS rfl) (by decide) ?_; clear hS; intro aa hS
      refine wpList_nil ?_
      refine hK376 _ _ ?_
      refine wp_seq_k ?_; intro K377 hK377
      refine wp_seq_k ?_; intro K378 hK378
      refine wp_region_lit ?_
      refine sA hS hR (Yld.move hS rfl) (by decide) ?_; clear hS; intro aa hS
      refine sA hS hR (Yld.lss hS rfl rfl) (by decide) ?_; clear hS; intro aa hS
      replace hS := hS.sayB (t := 45) false rfl (by exact decide_eq_false (by omega))
      refine sA hS hR (Yld.move hS rfl) (by decide) ?_; clear hS; intro aa hS
      refine sAg hS hR rfl rfl (Yld.move hS rfl) (by decide) ?_; clear hS; intro aa hS
      refine sAg hS hR rfl rfl (Yld.gtr hS rfl rfl) (by decide) ?_; clear hS; intro aa hS
      replace hS := hS.sayB (t := 48) false rfl (by exact decide_eq_false (by omega))
      refine sA hS hR (Yld.pickF hS rfl rfl) (by decide) ?_; clear hS; intro aa hS
      refine sA hS hR (Yld.move hS rfl) (by decide) ?_; clear hS; intro aa hS
      refine sAg hS hR rfl rfl (Yld.move hS rfl) (by decide) ?_; clear hS; intro aa hS
      refine sAg hS hR rfl rfl (Yld.to (u := .pointer (some ⟨bb4, x0, none⟩)) (Yld.indexArr hS rfl rfl Try.underlying24 info3 (by omega) (by omega)) (by have h1 : (Try.t3).size = 1 := rfl; rw [h1]; congr 3; omega)) (by decide) ?_; clear hS; intro aa hS
      refine sAg hS hR rfl rfl (Yld.load1 hS rfl Try.underlying3 rfl (Rd.blk (v := .int .i64 (tm x0)) (by repeat (first | with_reducible exact Pk.here | with_reducible apply Pk.there)) (tab_flat (by omega)))) (by decide) ?_; clear hS; intro aa hS
      refine sAg hS hR rfl rfl (Yld.move hS rfl) (by decide) ?_; clear hS; intro aa hS
      refine sAg hS hR rfl rfl (Yld.leq hS rfl rfl) (by decide) ?_; clear hS; intro aa hS
      replace hS := hS.sayB (t := 55) false rfl (by exact decide_eq_false (by omega))
      refine sA hS hR (Yld.pickF hS rfl rfl) (by decide) ?_; clear hS; intro aa hS
      refine wpList_nil ?_
      refine hK378 _ _ ?_
      refine condF hS rfl ?_
      refine wp_skip ?_
      refine hK377 _ _ ?_
      refine wp_seq_k ?_; intro K379 hK379
      refine wp_seq_k ?_; intro K380 hK380
      refine wp_region_lit ?_
      refine sA hS hR (Yld.move hS rfl) (by decide) ?_; clear hS; intro aa hS
      refine sA hS hR (Yld.move hS rfl) (by decide) ?_; clear hS; intro aa hS
      refine sB (Bcall hS rfl Try.call20 (lrWhen_ok (i := (x0 : Int)) (hR.pk (r := lruA _ _ _ _ _ _ _ _ _) (by repeat (first | with_reducible exact Pk.here | with_reducible apply Pk.there)))) (by decide) ?_); clear hS; intro aa ww vv hS hp
      clear hR
      obtain ⟨rfl, hR⟩ := hp
      rw [when_in hx16 hxm] at hS
      refine sA hS hR (Yld.move hS rfl) (by decide) ?_; clear hS; intro aa hS
      refine sA hS hR (Yld.extract hS rfl rfl) (by decide) ?_; clear hS; intro aa hS
      refine sA hS hR (Yld.extract hS rfl rfl) (by decide) ?_; clear hS; intro aa hS
      refine sA hS hR (Yld.assign hS rfl) (by decide) ?_; clear hS; intro aa hS
      refine sA hS hR (Yld.assign hS rfl) (by decide) ?_; clear hS; intro aa hS
      refine wpList_nil ?_
      refine hK380 _ _ ?_
      refine wp_seq_k ?_; intro K381 hK381
      refine wp_region_lit ?_
      refine sA hS hR (Yld.move hS rfl) (by decide) ?_; clear hS; intro aa hS
      refine sA hS hR (Yld.not hS rfl) (by decide) ?_; clear hS; intro aa hS
      replace hS := hS.sayB (t := 64) false rfl (by rfl)
      refine sA hS hR (Yld.move hS rfl) (by decide) ?_; clear hS; intro aa hS
      refine sAg hS hR rfl rfl (Yld.move hS rfl) (by decide) ?_; clear hS; intro aa hS
      refine sAg hS hR rfl rfl (Yld.move hS rfl) (by decide) ?_; clear hS; intro aa hS
      refine sAg hS hR rfl rfl (Yld.to (u := .pointer (some ⟨bb4, x0, none⟩)) (Yld.indexArr hS rfl rfl Try.underlying24 info3 (by omega) (by omega)) (by have h1 : (Try.t3).size = 1 := rfl; rw [h1]; congr 3; omega)) (by decide) ?_; clear hS; intro aa hS
      refine sAg hS hR rfl rfl (Yld.load1 hS rfl Try.underlying3 rfl (Rd.blk (v := .int .i64 (tm x0)) (by repeat (first | with_reducible exact Pk.here | with_reducible apply Pk.there)) (tab_flat (by omega)))) (by decide) ?_; clear hS; intro aa hS
      refine sAg hS hR rfl rfl (Yld.neq hS rfl rfl) (by decide) ?_; clear hS; intro aa hS
      replace hS := hS.sayB (t := 70) false rfl (by rw [htx]; simp)
      refine sA hS hR (Yld.pickF hS rfl rfl) (by decide) ?_; clear hS; intro aa hS
      refine wpList_nil ?_
      refine hK381 _ _ ?_
      refine condF hS rfl ?_
      refine wp_skip ?_
      refine hK379 _ _ ?_
      refine wp_region_lit ?_
      refine sA hS hR (Yld.move hS rfl) (by decide) ?_; clear hS; intro aa hS
      refine sA hS hR (Yld.to (u := .pointer (some ⟨bb4, x0, none⟩)) (Yld.indexArr hS rfl rfl Try.underlying24 info3 (by omega) (by omega)) (by have h1 : (Try.t3).size = 1 := rfl; rw [h1]; congr 3; omega)) (by decide) ?_; clear hS; intro aa hS
      refine sA hS hR (Yld.load1 hS rfl Try.underlying3 rfl (Rd.blk (v := .int .i64 (tm x0)) (by repeat (first | with_reducible exact Pk.here | with_reducible apply Pk.there)) (tab_flat (by omega)))) (by decide) ?_; clear hS; intro aa hS
      replace hS := hS.say (t := 74) (.int .i64 (lastT ord T (i + 1))) rfl (by rw [lastT_next hio hx0, htx])
      refine sA hS hR (Yld.assign hS rfl) (by decide) ?_; clear hS; intro aa hS
      refine wpList_nil ?_
      refine hK375 _ _ ?_
      refine wp_region_lit ?_
      refine sA hS hR ((by first | exact Yld.add64 hS rfl rfl (by omega) | exact Yld.add hS rfl rfl)) (by decide) ?_; clear hS; intro aa hS
      refine sA hS hR (Yld.move hS rfl) (by decide) ?_; clear hS; intro aa hS
      refine wpList_nil ?_
      
      refine ⟨i + 1, ?_, ?_, hS.le (Le.cons rfl (Le.cons rfl (Le.nilapp (Le.cons rfl (Le.cons rfl (Le.cons rfl (Le.cons rfl (Le.cons rfl (Le.cons rfl (Le.nil _)))))))))), hR.sub (Ex.nilapp (by repeat (first | with_reducible exact Ex.refl | (with_reducible apply Ex.take; · repeat (first | with_reducible exact Pk.here | with_reducible apply Pk.there)) | with_reducible apply Ex.drop)))⟩
      · omega
      · omega
    · intro hg hS
      have hio : i = ord.length := by omega
      rw [hio] at hS
      have hla := hLI.lastN hn0
      refine condF hS rfl ?_
      refine wp_exit ?_
      refine hK370 _ _ ?_
      refine wp_seq_k ?_; intro K382 hK382
      refine wp_region_lit ?_
      refine sA hS hR (Yld.move hS rfl) (by decide) ?_; clear hS; intro aa hS
      refine sB (Bcall hS rfl Try.call12 (lrOldest_ok (hR.pk (r := lruA _ _ _ _ _ _ _ _ _) (by repeat (first | with_reducible exact Pk.here | with_reducible apply Pk.there)))) (by decide) ?_); clear hS; intro aa ww vv hS hp
      clear hR
      obtain ⟨rfl, hR⟩ := hp
      refine sA hS hR (Yld.move hS rfl) (by decide) ?_; clear hS; intro aa hS
      refine sA hS hR (Yld.extract hS rfl rfl) (by decide) ?_; clear hS; intro aa hS
      refine sA hS hR (Yld.extract hS rfl rfl) (by decide) ?_; clear hS; intro aa hS
      refine sA hS hR (Yld.assign hS rfl) (by decide) ?_; clear hS; intro aa hS
      refine sA hS hR (Yld.assign hS rfl) (by decide) ?_; clear hS; intro aa hS
      refine wpList_nil ?_
      refine hK382 _ _ ?_
      refine wp_seq_k ?_; intro K383 hK383
      refine wp_region_lit ?_
      refine sA hS hR (Yld.move hS rfl) (by decide) ?_; clear hS; intro aa hS
      refine sB (Bcall hS rfl Try.call26 (lrNewest_ok (hR.pk (r := lruA _ _ _ _ _ _ _ _ _) (by repeat (first | with_reducible exact Pk.here | with_reducible apply Pk.there)))) (by decide) ?_); clear hS; intro aa ww vv hS hp
      clear hR
      obtain ⟨rfl, hR⟩ := hp
      refine sA hS hR (Yld.move hS rfl) (by decide) ?_; clear hS; intro aa hS
      refine sA hS hR (Yld.extract hS rfl rfl) (by decide) ?_; clear hS; intro aa hS
      refine sA hS hR (Yld.extract hS rfl rfl) (by decide) ?_; clear hS; intro aa hS
      refine sA hS hR (Yld.assign hS rfl) (by decide) ?_; clear hS; intro aa hS
      refine sA hS hR (Yld.assign hS rfl) (by decide) ?_; clear hS; intro aa hS
      refine wpList_nil ?_
      refine hK383 _ _ ?_
      refine wp_seq_k ?_; intro K384 hK384
      refine wp_seq_k ?_; intro K385 hK385
      refine wp_region_lit ?_
      refine sA hS hR (Yld.move hS rfl) (by decide) ?_; clear hS; intro aa hS
      refine sA hS hR (Yld.eql hS rfl rfl) (by decide) ?_; clear hS; intro aa hS
      refine wpList_nil ?_
      refine hK385 _ _ ?_
      refine hS.splitB (t := 87) rfl ?_ ?_ <;> clear hS
      · intro hg hS
        have he : ord = [] := List.eq_nil_of_length_eq_zero (by omega)
        rw [he] at hS; (try dsimp only [optV, Option.getD, Option.isSome, dirL] at hS)
        refine condT hS rfl ?_
        refine wp_seq_k ?_; intro K386 hK386
        refine wp_region_lit ?_
        refine sA hS hR (Yld.move hS rfl) (by decide) ?_; clear hS; intro aa hS
        refine sA hS hR (Yld.not hS rfl) (by decide) ?_; clear hS; intro aa hS
        replace hS := hS.sayB (t := 89) true rfl (by rfl)
        refine sA hS hR (Yld.move hS rfl) (by decide) ?_; clear hS; intro aa hS
        refine sAg hS hR rfl rfl (Yld.move hS rfl) (by decide) ?_; clear hS; intro aa hS
        refine sAg hS hR rfl rfl (Yld.not hS rfl) (by decide) ?_; clear hS; intro aa hS
        replace hS := hS.sayB (t := 92) true rfl (by rfl)
        refine sA hS hR (Yld.pickT hS rfl rfl) (by decide) ?_; clear hS; intro aa hS
        refine sA hS hR (Yld.move hS rfl) (by decide) ?_; clear hS; intro aa hS
        refine sAg hS hR rfl rfl (Yld.move hS rfl) (by decide) ?_; clear hS; intro aa hS
        refine sAg hS hR rfl rfl (Yld.len hS rfl Try.underlying27) (by decide) ?_; clear hS; intro aa hS
        refine sAg hS hR rfl rfl (Yld.eql hS rfl rfl) (by decide) ?_; clear hS; intro aa hS
        replace hS := hS.sayB (t := 97) true rfl (by rfl)
        refine sA hS hR (Yld.pickT hS rfl rfl) (by decide) ?_; clear hS; intro aa hS
        refine sA hS hR (Yld.move hS rfl) (by decide) ?_; clear hS; intro aa hS
        refine sBg hS rfl rfl (Bcall hS rfl Try.call16 (awake_ok hR) (by decide) ?_); clear hS; intro aa ww vv hS hp
        clear hR
        obtain ⟨rfl, hR⟩ := hp
        refine sA hS hR (Yld.pickT hS rfl rfl) (by decide) ?_; clear hS; intro aa hS
        refine sA hS hR (Yld.assign hS rfl) (by decide) ?_; clear hS; intro aa hS
        refine wpList_nil ?_
        refine hK386 _ _ ?_
        refine wp_ret ?_
        repeat (first | with_reducible refine thenR ?_ | with_reducible refine blockR ?_ | with_reducible refine scopeR ?_)
        refine ret1 (fn := Try.f8) (e := .ret) (.inl rfl) Try.results8 hS hR ⟨_, (.tmp rfl), ?_⟩
        exact ⟨rfl, (hR.sub (by repeat (first | with_reducible exact Ex.refl | (with_reducible apply Ex.take; · repeat (first | with_reducible exact Pk.here | with_reducible apply Pk.there)) | with_reducible apply Ex.drop)))⟩
      · intro hg hS
        have hpos : 0 < ord.length := by omega
        rw [dir0_headL hpos, dir1_headL hpos] at hS; (try dsimp only [optV, Option.getD, Option.isSome] at hS)
        refine condF hS rfl ?_
        refine wp_skip ?_
        refine hK384 _ _ ?_
        refine wp_seq_k ?_; intro K387 hK387
        refine wp_region_lit ?_
        refine sA hS hR (Yld.move hS rfl) (by decide) ?_; clear hS; intro aa hS
        refine sA hS hR (Yld.len hS rfl Try.underlying27) (by decide) ?_; clear hS; intro aa hS
        refine sA hS hR (Yld.move hS rfl) (by decide) ?_; clear hS; intro aa hS
        refine sA hS hR (Yld.eql hS rfl rfl) (by decide) ?_; clear hS; intro aa hS
        replace hS := hS.sayB (t := 105) true rfl (by exact decide_eq_true (by omega))
        refine sA hS hR (Yld.move hS rfl) (by decide) ?_; clear hS; intro aa hS
        refine sAg hS hR rfl rfl (Yld.move hS rfl) (by decide) ?_; clear hS; intro aa hS
        replace hS := hS.sayB (t := 107) true rfl (by rfl)
        refine sA hS hR (Yld.pickT hS rfl rfl) (by decide) ?_; clear hS; intro aa hS
        refine sA hS hR (Yld.move hS rfl) (by decide) ?_; clear hS; intro aa hS
        refine sAg hS hR rfl rfl (Yld.move hS rfl) (by decide) ?_; clear hS; intro aa hS
        replace hS := hS.sayB (t := 110) true rfl (by rfl)
        refine sA hS hR (Yld.pickT hS rfl rfl) (by decide) ?_; clear hS; intro aa hS
        refine sA hS hR (Yld.move hS rfl) (by decide) ?_; clear hS; intro aa hS
        refine sAg hS hR rfl rfl (Yld.move hS rfl) (by decide) ?_; clear hS; intro aa hS
        refine sAg hS hR rfl rfl (Yld.move hS rfl) (by decide) ?_; clear hS; intro aa hS
        refine sAg hS hR rfl rfl ((by first | exact Yld.indexH (sz := 1) (0) hS rfl rfl Try.underlying27 info3 (by assumption) rfl (by first | rfl | omega) (by omega) | exact Yld.indexL (sz := 1) (0) hS rfl rfl Try.underlying27 info3 (by repeat (first | with_reducible exact Pk.here | with_reducible apply Pk.there)) rfl (by first | rfl | omega) (by omega) | exact Yld.indexB (sz := 1) (0) hS rfl rfl Try.underlying27 info3 rfl (by first | rfl | omega) (by omega))) (by decide) ?_; clear hS; intro aa hS
        refine sAg hS hR rfl rfl (Yld.load1 hS rfl Try.underlying3 rfl (Rd.rec0 (k := 0) (xs := cst ord) (v := .int .i64 ((ord[0] : Nat) : Int)) (by repeat (first | with_reducible exact Pk.here | with_reducible apply Pk.there)) (by intro _; rfl) (by omega) (by rw [cst_get]; rfl))) (by decide) ?_; clear hS; intro aa hS
        refine sAg hS hR rfl rfl (Yld.eql hS rfl rfl) (by decide) ?_; clear hS; intro aa hS
        replace hS := hS.sayB (t := 117) true rfl (by simp)
        refine sA hS hR (Yld.pickT hS rfl rfl) (by decide) ?_; clear hS; intro aa hS
        refine sA hS hR (Yld.move hS rfl) (by decide) ?_; clear hS; intro aa hS
        refine sAg hS hR rfl rfl (Yld.move hS rfl) (by decide) ?_; clear hS; intro aa hS
        refine sAg hS hR rfl rfl (Yld.move hS rfl) (by decide) ?_; clear hS; intro aa hS
        refine sAg hS hR rfl rfl (Yld.move hS rfl) (by decide) ?_; clear hS; intro aa hS
        refine sAg hS hR rfl rfl ((by first | exact Yld.sub64 hS rfl rfl (by omega) | exact Yld.sub hS rfl rfl)) (by decide) ?_; clear hS; intro aa hS
        replace hS := hS.say (t := 123) (.int .i64 ((ord.length - 1 : Nat) : Int)) rfl (by rw [show ((ord.length - 1 : Nat) : Int) = ((ord.length : Nat) : Int) - 1 from by omega])
        refine sAg hS hR rfl rfl ((by first | exact Yld.indexH (sz := 1) (ord.length - 1) hS rfl rfl Try.underlying27 info3 (by assumption) rfl (by first | rfl | omega) (by omega) | exact Yld.indexL (sz := 1) (ord.length - 1) hS rfl rfl Try.underlying27 info3 (by repeat (first | with_reducible exact Pk.here | with_reducible apply Pk.there)) rfl (by first | rfl | omega) (by omega) | exact Yld.indexB (sz := 1) (ord.length - 1) hS rfl rfl Try.underlying27 info3 rfl (by first | rfl | omega) (by omega))) (by decide) ?_; clear hS; intro aa hS
        refine sAg hS hR rfl rfl (Yld.load1 hS rfl Try.underlying3 rfl (Rd.rec0 (k := ord.length - 1) (xs := cst ord) (v := .int .i64 ((ord[ord.length - 1] : Nat) : Int)) (by repeat (first | with_reducible exact Pk.here | with_reducible apply Pk.there)) (by intro _; rfl) (by omega) (by rw [cst_get]; rfl))) (by decide) ?_; clear hS; intro aa hS
        refine sAg hS hR rfl rfl (Yld.eql hS rfl rfl) (by decide) ?_; clear hS; intro aa hS
        replace hS := hS.sayB (t := 126) true rfl (by simp)
        refine sA hS hR (Yld.pickT hS rfl rfl) (by decide) ?_; clear hS; intro aa hS
        refine sA hS hR (Yld.move hS rfl) (by decide) ?_; clear hS; intro aa hS
        refine sAg hS hR rfl rfl (Yld.move hS rfl) (by decide) ?_; clear hS; intro aa hS
        refine sBg hS rfl rfl (Bcall hS rfl Try.call18 (lrNow_ok (hR.pk (r := lruA _ _ _ _ _ _ _ _ _) (by repeat (first | with_reducible exact Pk.here | with_reducible apply Pk.there)))) (by decide) ?_); clear hS; intro aa ww vv hS hp
        clear hR
        obtain ⟨rfl, hR⟩ := hp
        refine sAg hS hR rfl rfl (Yld.move hS rfl) (by decide) ?_; clear hS; intro aa hS
        refine sAg hS hR rfl rfl (Yld.geq hS rfl rfl) (by decide) ?_; clear hS; intro aa hS
        replace hS := hS.sayB (t := 132) true rfl (by exact decide_eq_true (by omega))
        refine sA hS hR (Yld.pickT hS rfl rfl) (by decide) ?_; clear hS; intro aa hS
        refine sA hS hR (Yld.move hS rfl) (by decide) ?_; clear hS; intro aa hS
        refine sBg hS rfl rfl (Bcall hS rfl Try.call16 (awake_ok hR) (by decide) ?_); clear hS; intro aa ww vv hS hp
        clear hR
        obtain ⟨rfl, hR⟩ := hp
        refine sA hS hR (Yld.pickT hS rfl rfl) (by decide) ?_; clear hS; intro aa hS
        refine sA hS hR (Yld.assign hS rfl) (by decide) ?_; clear hS; intro aa hS
        refine wpList_nil ?_
        refine hK387 _ _ ?_
        refine wp_ret ?_
        repeat (first | with_reducible refine thenR ?_ | with_reducible refine blockR ?_ | with_reducible refine scopeR ?_)
        refine ret1 (fn := Try.f8) (e := .ret) (.inl rfl) Try.results8 hS hR ⟨_, (.tmp rfl), ?_⟩
        exact ⟨rfl, (hR.sub (by repeat (first | with_reducible exact Ex.refl | (with_reducible apply Ex.take; · repeat (first | with_reducible exact Pk.here | with_reducible apply Pk.there)) | with_reducible apply Ex.drop)))⟩
end Go.Proofs.Ytojeibjlkbffcaa.Sx
