/-
  
-/
import Derived.Test.YtojeibjlkbffcaaLsB
import Derived.Test.YtojeibjlkbffcaaLru3
namespace Go.Proofs.Ytojeibjlkbffcaa.Sx
open Go
set_option linter.unusedVariables false
set_option linter.unusedSimpArgs false



set_option maxHeartbeats 4000000 in
set_option maxRecDepth 20000 in
theorem LruSince_ok {W : World} {q : Option Addr} {n c : Nat} {xs : List (List Int)} (A1 : ArgS W [.u8] q n c xs) {a b0 : Int} {l : List HP} {w : World} (hR : Sep (old W :: l) w) : CallR Try.prog 4 [.slice q n c, .int .i64 a, .int .i64 b0] w (fun v w' => v = .bool true ∧ Sep (old W :: l) w') := by
  refine enter Try.func4 rfl Try.ntmps4 (Nat.le_of_ble_eq_true rfl) ?_; intro aa hS
  have hcap := A1.cap
  refine wp_seq_k ?_; intro K340 hK340
  refine wp_region_lit ?_
  refine sA hS hR (Yld.assign hS rfl) (by decide) ?_; clear hS; intro aa hS
  refine wpList_nil ?_
  refine hK340 _ _ ?_
  refine wp_seq_k ?_; intro K341 hK341
  refine wp_region_lit ?_
  refine sA hS hR (Yld.move hS rfl) (by decide) ?_; clear hS; intro aa hS
  refine sB (Bcall hS rfl Try.call10 (seen_ok A1 hR) (by decide) ?_); clear hS; intro aa ww vv hS hp
  clear hR
  obtain ⟨b, ord, T, now, tm, rfl, hLI, hn0, hn1, hR⟩ := hp
  have hol := hLI.len
  refine sA hS hR (Yld.move hS rfl) (by decide) ?_; clear hS; intro aa hS
  refine sA hS hR (Yld.extract hS rfl rfl) (by decide) ?_; clear hS; intro aa hS
  refine sA hS hR (Yld.extract hS rfl rfl) (by decide) ?_; clear hS; intro aa hS
  refine sA hS hR (Yld.extract hS rfl rfl) (by decide) ?_; clear hS; intro aa hS
  refine sB (Balloc hS hR info24 (by rfl) (by rfl) (by decide) ?_); clear hS hR; intro aa ww bb8 hS hR
  refine sA hS hR (Yld.assign hS rfl) (by decide) ?_; clear hS; intro aa hS
  refine sB (Bstore hS hR rfl rfl (by rfl) info24 (by rfl) (by repeat (first | with_reducible exact Pk.here | with_reducible apply Pk.there)) (by rfl) (Nat.le_of_ble_eq_true rfl) ?_); clear hR; intro ww hR
  replace hR := hR.pk (r := blk bb8 _ _) (by repeat (first | with_reducible exact Pk.here | with_reducible apply Pk.there))
  change Sep (blk bb8 ((tab 16 tm).flatMap e1) 24 :: _) _ at hR
  refine sA hS hR (Yld.assign hS rfl) (by decide) ?_; clear hS; intro aa hS
  refine wpList_nil ?_
  refine hK341 _ _ ?_
  refine wp_seq_k ?_; intro K342 hK342
  refine wp_seq_k ?_; intro K343 hK343
  refine wp_region_lit ?_
  refine sA hS hR (Yld.move hS rfl) (by decide) ?_; clear hS; intro aa hS
  refine sA hS hR (Yld.not hS rfl) (by decide) ?_; clear hS; intro aa hS
  replace hS := hS.sayB (t := 22) false rfl (by rfl)
  refine wpList_nil ?_
  refine hK343 _ _ ?_
  refine condF hS rfl ?_
  refine wp_skip ?_
  refine hK342 _ _ ?_
  refine wp_seq_k ?_; intro K344 hK344
  refine wp_region_lit ?_
  refine sA hS hR (Yld.move hS rfl) (by decide) ?_; clear hS; intro aa hS
  refine sB (Bcall hS rfl Try.call11 (lrAll_ok  (hR.pk (r := lruA _ _ _ _ _ _ _ _ _) (by repeat (first | with_reducible exact Pk.here | with_reducible apply Pk.there)))) (by decide) ?_); clear hS; intro aa ww vv hS hp
  clear hR
  obtain ⟨ra, cra, rfl, hR⟩ := hp
  have hcl := cst_len (l := ord)
  have hca := (hR.pk (r := sls ra _ _ _ _ _) (by repeat (first | with_reducible exact Pk.here | with_reducible apply Pk.there))).slsLe.1
  refine sA hS hR (Yld.assign hS rfl) (by decide) ?_; clear hS; intro aa hS
  refine wpList_nil ?_
  refine hK344 _ _ ?_
  refine wp_seq_k ?_; intro K345 hK345
  refine wp_region_lit ?_
  refine sA hS hR (Yld.move hS rfl) (by decide) ?_; clear hS; intro aa hS
  refine sA hS hR (Yld.move hS rfl) (by decide) ?_; clear hS; intro aa hS
  refine sA hS hR (Yld.move hS rfl) (by decide) ?_; clear hS; intro aa hS
  refine sA hS hR (Yld.min hS rfl rfl) (by decide) ?_; clear hS; intro aa hS
  refine sB (Bcall hS rfl Try.call17 (lrSince_ok (t0 := min a b0) (hR.pk (r := lruA _ _ _ _ _ _ _ _ _) (by repeat (first | with_reducible exact Pk.here | with_reducible apply Pk.there)))) (by decide) ?_); clear hS; intro aa ww vv hS hp
  clear hR
  obtain ⟨re, cre, rfl, hR⟩ := hp
  obtain ⟨k1, hk1, hfk1, hik1⟩ := suffix (T := T) (t0 := min a b0) hLI.pw
  rw [hfk1] at hS hR
  have hlk1 : (cst (ord.drop k1)).length = ord.length - k1 := by rw [cst_len, List.length_drop]
  refine sA hS hR (Yld.move hS rfl) (by decide) ?_; clear hS; intro aa hS
  refine sA hS hR (Yld.move hS rfl) (by decide) ?_; clear hS; intro aa hS
  refine sA hS hR (Yld.move hS rfl) (by decide) ?_; clear hS; intro aa hS
  refine sA hS hR (Yld.max hS rfl rfl) (by decide) ?_; clear hS; intro aa hS
  refine sB (Bcall hS rfl Try.call17 (lrSince_ok (t0 := max a b0) (hR.pk (r := lruA _ _ _ _ _ _ _ _ _) (by repeat (first | with_reducible exact Pk.here | with_reducible apply Pk.there)))) (by decide) ?_); clear hS; intro aa ww vv hS hp
  clear hR
  obtain ⟨rl, crl, rfl, hR⟩ := hp
  obtain ⟨k2, hk2, hfk2, hik2⟩ := suffix (T := T) (t0 := max a b0) hLI.pw
  rw [hfk2] at hS hR
  have hlk2 : (cst (ord.drop k2)).length = ord.length - k2 := by rw [cst_len, List.length_drop]
  have hk12 : k1 ≤ k2 := by
    by_cases hlt : k2 < k1
    · have hx := List.getElem?_eq_getElem (l := ord) (i := k2) (by omega)
      have h8 := (hik2 k2 _ hx).2 (Nat.le_refl _)
      exact (hik1 k2 _ hx).1 (by omega)
    · omega
  refine sA hS hR (Yld.assign hS rfl) (by decide) ?_; clear hS; intro aa hS
  refine sA hS hR (Yld.assign hS rfl) (by decide) ?_; clear hS; intro aa hS
  refine wpList_nil ?_
  refine hK345 _ _ ?_
  refine wp_seq_k ?_; intro K346 hK346
  refine wp_seq_k ?_; intro K347 hK347
  refine wp_region_lit ?_
  refine sA hS hR (Yld.move hS rfl) (by decide) ?_; clear hS; intro aa hS
  refine sA hS hR (Yld.len hS rfl Try.underlying27) (by decide) ?_; clear hS; intro aa hS
  refine sA hS hR (Yld.move hS rfl) (by decide) ?_; clear hS; intro aa hS
  refine sA hS hR (Yld.len hS rfl Try.underlying27) (by decide) ?_; clear hS; intro aa hS
  refine sA hS hR (Yld.gtr hS rfl rfl) (by decide) ?_; clear hS; intro aa hS
  replace hS := hS.sayB (t := 39) false rfl (by exact decide_eq_false (by omega))
  refine sA hS hR (Yld.move hS rfl) (by decide) ?_; clear hS; intro aa hS
  refine sAg hS hR rfl rfl (Yld.move hS rfl) (by decide) ?_; clear hS; intro aa hS
  refine sAg hS hR rfl rfl (Yld.len hS rfl Try.underlying27) (by decide) ?_; clear hS; intro aa hS
  refine sAg hS hR rfl rfl (Yld.move hS rfl) (by decide) ?_; clear hS; intro aa hS
  refine sAg hS hR rfl rfl (Yld.len hS rfl Try.underlying27) (by decide) ?_; clear hS; intro aa hS
  refine sAg hS hR rfl rfl (Yld.gtr hS rfl rfl) (by decide) ?_; clear hS; intro aa hS
  replace hS := hS.sayB (t := 45) false rfl (by exact decide_eq_false (by omega))
  refine sA hS hR (Yld.pickF hS rfl rfl) (by decide) ?_; clear hS; intro aa hS
  refine sA hS hR (Yld.move hS rfl) (by decide) ?_; clear hS; intro aa hS
  refine sAg hS hR rfl rfl (Yld.move hS rfl) (by decide) ?_; clear hS; intro aa hS
  refine sAg hS hR rfl rfl (Yld.move hS rfl) (by decide) ?_; clear hS; intro aa hS
  refine sAg hS hR rfl rfl (Yld.move hS rfl) (by decide) ?_; clear hS; intro aa hS
  refine sAg hS hR rfl rfl (Yld.len hS rfl Try.underlying27) (by decide) ?_; clear hS; intro aa hS
  refine sAg hS hR rfl rfl (Yld.move hS rfl) (by decide) ?_; clear hS; intro aa hS
  refine sAg hS hR rfl rfl (Yld.len hS rfl Try.underlying27) (by decide) ?_; clear hS; intro aa hS
  refine sAg hS hR rfl rfl ((by first | exact Yld.sub64 hS rfl rfl (by omega) | exact Yld.sub hS rfl rfl)) (by decide) ?_; clear hS; intro aa hS
  replace hS := hS.say (t := 54) (.int .i64 ((k1 : Nat) : Int)) rfl (by rw [hcl, hlk1, show ((k1 : Nat) : Int) = ((ord.length : Nat) : Int) - ((ord.length - k1 : Nat) : Int) from by omega])
  refine sAg hS hR rfl rfl (Yld.sliceLo hS rfl rfl Try.underlying27 info3 (by omega) (by omega)) (by decide) ?_; clear hS; intro aa hS
  replace hS := hS.say (t := 55) (.slice (if cra = k1 then ra else ra.map fun x => x.add (k1 * 1)) ((cst ord).drop k1).length (cra - k1)) rfl (by rw [List.length_drop, Int.toNat_natCast]; rfl)
  have hsdk1 := (hR.intsSls (r := ra) (by repeat (first | with_reducible exact Pk.here | with_reducible apply Pk.there))).drop (c := cra) (k := k1) hca
  refine sBg hS rfl rfl (Bcall hS rfl Try.call14 (SameInts_ok hR (xs := cst (ord.drop k1)) (ys := (cst ord).drop k1) (hR.intsSls (r := re) (by repeat (first | with_reducible exact Pk.here | with_reducible apply Pk.there))) hsdk1 (by omega) (by rw [List.length_drop]; omega)) (by decide) ?_); clear hS; intro aa ww vv hS hp
  clear hR
  obtain ⟨rfl, hR⟩ := hp
  replace hS := hS.sayB (t := 56) true rfl (by exact decide_eq_true cst_drop)
  refine sAg hS hR rfl rfl (Yld.not hS rfl) (by decide) ?_; clear hS; intro aa hS
  refine sA hS hR (Yld.pickF hS rfl rfl) (by decide) ?_; clear hS; intro aa hS
  refine sA hS hR (Yld.move hS rfl) (by decide) ?_; clear hS; intro aa hS
  refine sAg hS hR rfl rfl (Yld.move hS rfl) (by decide) ?_; clear hS; intro aa hS
  refine sAg hS hR rfl rfl (Yld.move hS rfl) (by decide) ?_; clear hS; intro aa hS
  refine sAg hS hR rfl rfl (Yld.move hS rfl) (by decide) ?_; clear hS; intro aa hS
  refine sAg hS hR rfl rfl (Yld.len hS rfl Try.underlying27) (by decide) ?_; clear hS; intro aa hS
  refine sAg hS hR rfl rfl (Yld.move hS rfl) (by decide) ?_; clear hS; intro aa hS
  refine sAg hS hR rfl rfl (Yld.len hS rfl Try.underlying27) (by decide) ?_; clear hS; intro aa hS
  refine sAg hS hR rfl rfl ((by first | exact Yld.sub64 hS rfl rfl (by omega) | exact Yld.sub hS rfl rfl)) (by decide) ?_; clear hS; intro aa hS
  replace hS := hS.say (t := 66) (.int .i64 ((k2 : Nat) : Int)) rfl (by rw [hcl, hlk2, show ((k2 : Nat) : Int) = ((ord.length : Nat) : Int) - ((ord.length - k2 : Nat) : Int) from by omega])
  refine sAg hS hR rfl rfl (Yld.sliceLo hS rfl rfl Try.underlying27 info3 (by omega) (by omega)) (by decide) ?_; clear hS; intro aa hS
  replace hS := hS.say (t := 67) (.slice (if cra = k2 then ra else ra.map fun x => x.add (k2 * 1)) ((cst ord).drop k2).length (cra - k2)) rfl (by rw [List.length_drop, Int.toNat_natCast]; rfl)
  have hsdk2 := (hR.intsSls (r := ra) (by repeat (first | with_reducible exact Pk.here | with_reducible apply Pk.there))).drop (c := cra) (k := k2) hca
  refine sBg hS rfl rfl (Bcall hS rfl Try.call14 (SameInts_ok hR (xs := cst (ord.drop k2)) (ys := (cst ord).drop k2) (hR.intsSls (r := rl) (by repeat (first | with_reducible exact Pk.here | with_reducible apply Pk.there))) hsdk2 (by omega) (by rw [List.length_drop]; omega)) (by decide) ?_); clear hS; intro aa ww vv hS hp
  clear hR
  obtain ⟨rfl, hR⟩ := hp
  replace hS := hS.sayB (t := 68) true rfl (by exact decide_eq_true cst_drop)
  refine sAg hS hR rfl rfl (Yld.not hS rfl) (by decide) ?_; clear hS; intro aa hS
  refine sA hS hR (Yld.pickF hS rfl rfl) (by decide) ?_; clear hS; intro aa hS
  refine wpList_nil ?_
  refine hK347 _ _ ?_
  refine condF hS rfl ?_
  refine wp_skip ?_
  refine hK346 _ _ ?_
  refine wp_seq_k ?_; intro K348 hK348
  refine wp_seq_k ?_; intro K349 hK349
  refine wp_region_lit ?_
  refine sA hS hR (Yld.move hS rfl) (by decide) ?_; clear hS; intro aa hS
  refine sA hS hR (Yld.len hS rfl Try.underlying27) (by decide) ?_; clear hS; intro aa hS
  refine sA hS hR (Yld.move hS rfl) (by decide) ?_; clear hS; intro aa hS
  refine wpList_nil ?_
  refine hK349 _ _ ?_
  refine wp_block ?_
  refine loopI (X := Nat) [(1, _), (7, _), (8, _), (10, _), (71, _), (72, _)] (fun x => [(73, .int .i64 (x : Int))]) (fun x => []) _ (fun x => x ≤ ord.length) (fun x => ord.length - x) 0 (Nat.zero_le _) (hS.le (Le.cons rfl (Le.nilapp (Le.cons rfl (Le.cons rfl (Le.cons rfl (Le.cons rfl (Le.cons rfl (Le.cons rfl (Le.nil _)))))))))) hR ?_
  clear hS hR; rintro i aa ww hI hS hR; dsimp only [List.cons_append, List.nil_append] at hI hS hR
  refine wp_seq_k ?_; intro K351 hK351
  refine wp_region_lit ?_
  refine sA hS hR (Yld.lss hS rfl rfl) (by decide) ?_; clear hS; intro aa hS
  refine wpList_nil ?_
  refine hK351 _ _ ?_
  refine wp_seq_k ?_; intro K352 hK352
  refine hS.splitB (t := 74) rfl ?_ ?_ <;> clear hS
  · intro hg hS
    have hio : i < ord.length := by omega
    obtain ⟨x0, hx0⟩ : ∃ y, ord[i] = y := ⟨_, rfl⟩
    have hxm : x0 ∈ ord := by rw [← hx0]; exact List.getElem_mem hio
    have hx16 := hLI.lt x0 hxm
    have htx := hLI.tm1 x0 hxm
    have hxs : ord[i]? = some x0 := by rw [List.getElem?_eq_getElem hio, hx0]
    refine condT hS rfl ?_
    refine wp_skip ?_
    refine hK352 _ _ ?_
    refine wp_seq_k ?_; intro K353 hK353
    refine wp_block ?_
    refine wp_seq_k ?_; intro K354 hK354
    refine wp_region_lit ?_
    refine sA hS hR (Yld.move hS rfl) (by decide) ?_; clear hS; intro aa hS
    refine sA hS hR ((by first | exact Yld.indexH (sz := 1) (i) hS rfl rfl Try.underlying27 info3 (by assumption) rfl (by first | rfl | omega) (by omega) | exact Yld.indexL (sz := 1) (i) hS rfl rfl Try.underlying27 info3 (by repeat (first | with_reducible exact Pk.here | with_reducible apply Pk.there)) rfl (by first | rfl | omega) (by omega) | exact Yld.indexB (sz := 1) (i) hS rfl rfl Try.underlying27 info3 rfl (by first | rfl | omega) (by omega))) (by decide) ?_; clear hS; intro aa hS
    refine sA hS hR (Yld.load1 hS rfl Try.underlying3 rfl (Rd.rec0 (k := i) (xs := cst ord) (v := .int .i64 ((x0 : Nat) : Int)) (by repeat (first | with_reducible exact Pk.here | with_reducible apply Pk.there)) (by intro _; rfl) (by omega) (by rw [cst_get]; simp only [hx0]; rfl))) (by decide) ?_; clear hS; intro aa hS
    refine sA hS hR (Yld.assign hS rfl) (by decide) ?_; clear hS; intro aa hS
    refine sA hS hR (Yld.assign hS rfl) (by decide) ?_; clear hS; intro aa hS
    refine wpList_nil ?_
    refine hK354 _ _ ?_
    refine wp_seq_k ?_; intro K355 hK355
    refine drawn (by kernel_rfl) hR Ex.refl ?_; clear hR; intro ww hR hR0
    refine dA 0 rfl (by kernel_rfl) (by kernel_rfl) (by kernel_rfl) (fun _ _ _ h => h) hS hR0 (Yld.move hS rfl) (by decide) ?_; clear hS; intro aa hS
    refine dA 1 rfl (by kernel_rfl) (by kernel_rfl) (by kernel_rfl) (fun _ _ _ h => h) hS hR0 (Yld.to (u := .pointer (some ⟨bb8, x0, none⟩)) (Yld.indexArr hS rfl rfl Try.underlying24 info3 (by omega) (by omega)) (by have h1 : (Try.t3).size = 1 := rfl; rw [h1]; congr 3; omega)) (by decide) ?_; clear hS; intro aa hS
    refine dA 2 rfl (by kernel_rfl) (by kernel_rfl) (by kernel_rfl) (fun _ _ _ h => h) hS hR0 (Yld.load1 hS rfl Try.underlying3 rfl (Rd.blk (v := .int .i64 (tm x0)) (by repeat (first | with_reducible exact Pk.here | with_reducible apply Pk.there)) (tab_flat (by omega)))) (by decide) ?_; clear hS; intro aa hS
    refine dA 3 rfl (by kernel_rfl) (by kernel_rfl) (by kernel_rfl) (fun _ _ _ h => h) hS hR0 (Yld.move hS rfl) (by decide) ?_; clear hS; intro aa hS
    refine dA 4 rfl (by kernel_rfl) (by kernel_rfl) (by kernel_rfl) (fun _ _ _ h => h) hS hR0 (Yld.gtr hS rfl rfl) (by decide) ?_; clear hS; intro aa hS
    refine dA 5 rfl (by kernel_rfl) (by kernel_rfl) (by kernel_rfl) (fun _ _ _ h => h) hS hR0 (Yld.move hS rfl) (by decide) ?_; clear hS; intro aa hS
    refine dA 6 rfl (by kernel_rfl) (by kernel_rfl) (by kernel_rfl) (fun _ _ _ h => h) hS hR0 (Yld.move hS rfl) (by decide) ?_; clear hS; intro aa hS
    refine dA 7 rfl (by kernel_rfl) (by kernel_rfl) (by kernel_rfl) (fun _ _ _ h => h) hS hR0 (Yld.len hS rfl Try.underlying27) (by decide) ?_; clear hS; intro aa hS
    refine dA 8 rfl (by kernel_rfl) (by kernel_rfl) (by kernel_rfl) (fun _ _ _ h => h) hS hR0 (Yld.move hS rfl) (by decide) ?_; clear hS; intro aa hS
    refine dA 9 rfl (by kernel_rfl) (by kernel_rfl) (by kernel_rfl) (fun _ _ _ h => h) hS hR0 (Yld.move hS rfl) (by decide) ?_; clear hS; intro aa hS
    refine dOne (i := 10) (by kernel_rfl) ?_
    refine dop rfl (Bcall hS rfl Try.call17 (lrSince_ok (t0 := a) (hR.pk (r := lruA _ _ _ _ _ _ _ _ _) (by repeat (first | with_reducible exact Pk.here | with_reducible apply Pk.there)))) (by decide) ?_); clear hS; intro aa ww vv hS hp
    clear hR hR0
    obtain ⟨rs, crs, rfl, hR⟩ := hp
    obtain ⟨k3, hk3, hfk3, hik3⟩ := suffix (T := T) (t0 := a) hLI.pw
    rw [hfk3] at hS hR
    have hlk3 : (cst (ord.drop k3)).length = ord.length - k3 := by rw [cst_len, List.length_drop]
    refine dnext (hR.sub (by repeat (first | with_reducible exact Ex.refl | (with_reducible apply Ex.take; · repeat (first | with_reducible exact Pk.here | with_reducible apply Pk.there)) | with_reducible apply Ex.drop))) ?_; intro hR0
    refine dA 11 rfl (by kernel_rfl) (by kernel_rfl) (by kernel_rfl) (fun _ _ _ h => h) hS hR0 (Yld.len hS rfl Try.underlying27) (by decide) ?_; clear hS; intro aa hS
    refine dA 12 rfl (by kernel_rfl) (by kernel_rfl) (by kernel_rfl) (fun _ _ _ h => h) hS hR0 ((by first | exact Yld.sub64 hS rfl rfl (by omega) | exact Yld.sub hS rfl rfl)) (by decide) ?_; clear hS; intro aa hS
    replace hS := hS.say (t := 90) (.int .i64 ((k3 : Nat) : Int)) rfl (by rw [hcl, hlk3, show ((k3 : Nat) : Int) = ((ord.length : Nat) : Int) - ((ord.length - k3 : Nat) : Int) from by omega])
    refine dA 13 rfl (by kernel_rfl) (by kernel_rfl) (by kernel_rfl) (fun _ _ _ h => h) hS hR0 (Yld.geq hS rfl rfl) (by decide) ?_; clear hS; intro aa hS
    refine dA 14 rfl (by kernel_rfl) (by kernel_rfl) (by kernel_rfl) (fun _ _ _ h => h) hS hR0 (Yld.neqB hS rfl rfl Try.underlying4) (by decide) ?_; clear hS; intro aa hS
    replace hS := hS.sayB (t := 92) false rfl (by rw [htx, show decide (a < T x0) = decide (((k3 : Nat) : Int) ≤ (i : Int)) from decide_eq_decide.2 (by have h8 := hik3 i x0 hxs; omega)]; simp)
    refine wpAnyH_done (by kernel_rfl) ?_ _; clear hR0
    refine hK355 _ _ ?_
    refine condF hS rfl ?_
    refine wp_skip ?_
    refine hK353 _ _ ?_
    refine wp_region_lit ?_
    refine sA hS hR ((by first | exact Yld.add64 hS rfl rfl (by omega) | exact Yld.add hS rfl rfl)) (by decide) ?_; clear hS; intro aa hS
    refine sA hS hR (Yld.move hS rfl) (by decide) ?_; clear hS; intro aa hS
    refine wpList_nil ?_
    
    refine ⟨i + 1, ?_, ?_, hS.le (Le.cons rfl (Le.nilapp (Le.cons rfl (Le.cons rfl (Le.cons rfl (Le.cons rfl (Le.cons rfl (Le.cons rfl (Le.nil _))))))))), hR.sub (Ex.nilapp (by repeat (first | with_reducible exact Ex.refl | (with_reducible apply Ex.take; · repeat (first | with_reducible exact Pk.here | with_reducible apply Pk.there)) | with_reducible apply Ex.drop)))⟩
    · omega
    · omega
  · intro hg hS
    refine condF hS rfl ?_
    refine wp_exit ?_
    refine hK348 _ _ ?_
    refine wp_seq_k ?_; intro K356 hK356
    refine wp_region_lit ?_
    refine sA hS hR (Yld.move hS rfl) (by decide) ?_; clear hS; intro aa hS
    refine sA hS hR (Yld.move hS rfl) (by decide) ?_; clear hS; intro aa hS
    refine sB (Bcall hS rfl Try.call18 (lrNow_ok (hR.pk (r := lruA _ _ _ _ _ _ _ _ _) (by repeat (first | with_reducible exact Pk.here | with_reducible apply Pk.there)))) (by decide) ?_); clear hS; intro aa ww vv hS hp
    clear hR
    obtain ⟨rfl, hR⟩ := hp
    refine sB (Bcall hS rfl Try.call17 (lrSince_ok (t0 := now) (hR.pk (r := lruA _ _ _ _ _ _ _ _ _) (by repeat (first | with_reducible exact Pk.here | with_reducible apply Pk.there)))) (by decide) ?_); clear hS; intro aa ww vv hS hp
    clear hR
    obtain ⟨rn, crn, rfl, hR⟩ := hp
    rw [hLI.none] at hS hR
    refine sA hS hR (Yld.len hS rfl Try.underlying27) (by decide) ?_; clear hS; intro aa hS
    refine sA hS hR (Yld.eql hS rfl rfl) (by decide) ?_; clear hS; intro aa hS
    replace hS := hS.sayB (t := 99) true rfl (by rfl)
    refine sA hS hR (Yld.move hS rfl) (by decide) ?_; clear hS; intro aa hS
    refine sAg hS hR rfl rfl (Yld.move hS rfl) (by decide) ?_; clear hS; intro aa hS
    refine sBg hS rfl rfl (Bcall hS rfl Try.call17 (lrSince_ok (t0 := 0) (hR.pk (r := lruA _ _ _ _ _ _ _ _ _) (by repeat (first | with_reducible exact Pk.here | with_reducible apply Pk.there)))) (by decide) ?_); clear hS; intro aa ww vv hS hp
    clear hR
    obtain ⟨rz, crz, rfl, hR⟩ := hp
    rw [hLI.all] at hS hR
    refine sAg hS hR rfl rfl (Yld.move hS rfl) (by decide) ?_; clear hS; intro aa hS
    refine sBg hS rfl rfl (Bcall hS rfl Try.call14 (SameInts_ok hR (xs := cst ord) (ys := cst ord) (hR.intsSls (r := rz) (by repeat (first | with_reducible exact Pk.here | with_reducible apply Pk.there))) (hR.intsSls (r := ra) (by repeat (first | with_reducible exact Pk.here | with_reducible apply Pk.there))) (by omega) (by omega)) (by decide) ?_); clear hS; intro aa ww vv hS hp
    clear hR
    obtain ⟨rfl, hR⟩ := hp
    replace hS := hS.sayB (t := 104) true rfl (by simp)
    refine sA hS hR (Yld.pickT hS rfl rfl) (by decide) ?_; clear hS; intro aa hS
    refine sA hS hR (Yld.move hS rfl) (by decide) ?_; clear hS; intro aa hS
    refine sBg hS rfl rfl (Bcall hS rfl Try.call16 (awake_ok hR) (by decide) ?_); clear hS; intro aa ww vv hS hp
    clear hR
    obtain ⟨rfl, hR⟩ := hp
    refine sA hS hR (Yld.pickT hS rfl rfl) (by decide) ?_; clear hS; intro aa hS
    refine sA hS hR (Yld.assign hS rfl) (by decide) ?_; clear hS; intro aa hS
    refine wpList_nil ?_
    refine hK356 _ _ ?_
    refine wp_ret ?_
    repeat (first | with_reducible refine thenR ?_ | with_reducible refine blockR ?_ | with_reducible refine scopeR ?_)
    refine ret1 (fn := Try.f4) (e := .ret) (.inl rfl) Try.results4 hS hR ⟨_, (.tmp rfl), ?_⟩
    exact ⟨rfl, (hR.sub (by repeat (first | with_reducible exact Ex.refl | (with_reducible apply Ex.take; · repeat (first | with_reducible exact Pk.here | with_reducible apply Pk.there)) | with_reducible apply Ex.drop)))⟩
end Go.Proofs.Ytojeibjlkbffcaa.Sx
