/-
  
-/
import Derived.Test.YtmcfmhiadlkglaaRxB
namespace Go.Proofs.Ytmcfmhiadlkglaa.Sx
open Go
set_option linter.unusedVariables false
set_option linter.unusedSimpArgs false



set_option maxHeartbeats 4000000 in
set_option maxRecDepth 20000 in
theorem ROut_ok {K : List (Ky × Int)} {most : Int} {k : Ky} {b : Nat} {l : List HP} {w : World} (hR : Sep (rtrA 58 34 3 b K most :: l) w) (hk : WfK k) : CallR Try.prog 39 [.pointer (some ⟨b, 0, none⟩), vK k] w (fun v w' => v = .tuple [.int .i64 ((findV K k).getD 0), .int .i64 (if (findV K k).isSome = true then 0 else 6)].toArray ∧ Sep (rtrA 58 34 3 b (outK K k) most :: l) w') := by
  refine enter Try.func39 rfl Try.ntmps39 (Nat.le_of_ble_eq_true rfl) ?_; intro aa hS
  refine wp_seq_k ?_; intro K412 hK412
  refine wp_region_lit ?_
  refine sB (Bbox hS hR rfl (by rfl) (by decide) ?_); clear hS hR; intro aa ww bb3 hS hR
  refine sA hS hR (Yld.assign hS rfl) (by decide) ?_; clear hS; intro aa hS
  refine sA hS hR (Yld.assign hS rfl) (by decide) ?_; clear hS; intro aa hS
  refine wpList_nil ?_
  refine hK412 _ _ ?_
  refine wp_seq_k ?_; intro K413 hK413
  refine wp_region_lit ?_
  refine sA hS hR (Yld.move hS rfl) (by decide) ?_; clear hS; intro aa hS
  refine sA hS hR (Yld.loadAgg hS rfl Try.underlying34 rfl info34 (by first | exact Rds.cons (Rd.blk pkQ (by rfl)) (Rds.cons (Rd.blk pkQ (by rfl)) (Rds.cons (Rd.blk pkQ (by rfl)) (Rds.cons (Rd.blk pkQ (by rfl)) (Rds.cons (Rd.blk pkQ (by rfl)) (Rds.nil))))) | exact Rds.rec pkQ (by intro _; rfl) (by omega) | exact Rds.flat1 pkQ (by intro _; rfl) (by omega)) (by rfl)) (by decide) ?_; clear hS; intro aa hS
  refine sB (Bcall hS rfl Try.call46 (place_ok (K := K) (most := most) (hR.pk (r := rtrA _ _ _ b _ _) pkQ) hk) (by decide) ?_); clear hS; intro aa ww vv hS hp
  clear hR
  obtain ⟨rfl, hR⟩ := hp
  refine sA hS hR (Yld.move hS rfl) (by decide) ?_; clear hS; intro aa hS
  refine sA hS hR (Yld.extract hS rfl rfl) (by decide) ?_; clear hS; intro aa hS
  refine sA hS hR (Yld.extract hS rfl rfl) (by decide) ?_; clear hS; intro aa hS
  refine sA hS hR (Yld.assign hS rfl) (by decide) ?_; clear hS; intro aa hS
  refine sA hS hR (Yld.assign hS rfl) (by decide) ?_; clear hS; intro aa hS
  refine wpList_nil ?_
  refine hK413 _ _ ?_
  refine wp_seq_k ?_; intro K414 hK414
  refine wp_seq_k ?_; intro K415 hK415
  refine wp_region_lit ?_
  refine sA hS hR (Yld.move hS rfl) (by decide) ?_; clear hS; intro aa hS
  refine hS.splitB (t := 15) rfl ?_ ?_ <;> clear hS
  · intro hg hS
    have hh : has K k := findV_some.1 hg
    obtain ⟨r1, c1, r2, c2, hGK, hR⟩ := (hR.pk (r := rtrA _ _ _ b _ _) pkQ).rtrE
    have hG := hGK.good
    have hsl := hGK.slen
    have hvl := vals_len (K := K)
    have hcp1 := (hR.pk (r := sls r1 _ _ _ _ _) pkQ).slsLe.1
    have hcp2 := (hR.pk (r := sls r2 _ _ _ _ _) pkQ).slsLe.1
    obtain ⟨hpl, hpe⟩ := (plc_is hG hk).2 hh
    refine sA hS hR (Yld.not hS rfl) (by decide) ?_; clear hS; intro aa hS
    refine wpList_nil ?_
    refine hK415 _ _ ?_
    refine condF hS rfl ?_
    refine wp_skip ?_
    refine hK414 _ _ ?_
    refine wp_seq_k ?_; intro K416 hK416
    refine wp_region_lit ?_
    refine sA hS hR (Yld.move hS rfl) (by decide) ?_; clear hS; intro aa hS
    refine sA hS hR (Yld.nilCheck hS rfl) (by decide) ?_; clear hS; intro aa hS
    refine sA hS hR (Yld.fieldAddr hS rfl 2 Try.underlying58 rfl rfl info56 (by decide)) (by decide) ?_; clear hS; intro aa hS
    refine sA hS hR (Yld.load1 hS rfl Try.underlying56 rfl (by first | exact Rd.blk pkQ (by rfl) | exact Rd.rec pkQ (by intro _; rfl) (by omega) rfl | exact Rd.rec0 pkQ (by intro _; rfl) (by omega) rfl | exact Rd.flatJ pkQ (by intro _; rfl) (by omega) rfl | exact Rd.flat0 pkQ (by intro _; rfl) (by omega) rfl)) (by decide) ?_; clear hS; intro aa hS
    refine sA hS hR (Yld.move hS rfl) (by decide) ?_; clear hS; intro aa hS
    refine sA hS hR ((by first | exact Yld.indexL (sz := 1) (plc K k) hS rfl rfl Try.underlying56 info3 pkQ rfl (by first | rfl | omega) (by omega) | exact Yld.indexB (sz := 1) (plc K k) hS rfl rfl Try.underlying56 info3 rfl (by first | rfl | omega) (by omega))) (by decide) ?_; clear hS; intro aa hS
    refine sA hS hR (Yld.load1 hS rfl Try.underlying3 rfl (Rd.rec0 (k := plc K k) (xs := vals K) (v := .int .i64 ((findV K k).getD 0)) pkQ (by intro _; rfl) (by omega) (by have h9 := vals_at hG hk hh; rw [List.getElem?_eq_getElem (by omega)] at h9; rw [Option.some.inj h9]; rfl))) (by decide) ?_; clear hS; intro aa hS
    refine sA hS hR (Yld.assign hS rfl) (by decide) ?_; clear hS; intro aa hS
    refine wpList_nil ?_
    refine hK416 _ _ ?_
    refine wp_seq_k ?_; intro K417 hK417
    have tail417 : ∀ (r44 : Option Addr) (c44 : Nat) (aa : Act) (ww : World), Has 63 aa [(0, .pointer (some ⟨b, 0, none⟩)), (6, .int .i64 ((plc K k : Nat) : Int)), (8, .int .i64 ((findV K k).getD 0))] → Sep (blk b [.int .i64 most, .slice r44 (srt (outK K k)).length c44, .slice r2 (vals K).length c2] 58 :: sls r44 (srt (outK K k)).length c44 34 5 ((srt (outK K k)).flatMap eK) :: sls r2 (vals K).length c2 3 1 ((vals K).flatMap e1) :: l) ww → K417 aa ww := by
      clear hS hR; intro r44 c44 aa ww hS hR
      refine hK417 _ _ ?_
      refine wp_seq_k ?_; intro K418 hK418
      have tail418 : ∀ (r65 : Option Addr) (c65 : Nat) (aa : Act) (ww : World), Has 63 aa [(8, .int .i64 ((findV K k).getD 0))] → Sep (blk b [.int .i64 most, .slice r44 (srt (outK K k)).length c44, .slice r65 (vals (outK K k)).length c65] 58 :: sls r44 (srt (outK K k)).length c44 34 5 ((srt (outK K k)).flatMap eK) :: sls r65 (vals (outK K k)).length c65 3 1 ((vals (outK K k)).flatMap e1) :: l) ww → K418 aa ww := by
        clear hS hR; intro r65 c65 aa ww hS hR
        refine hK418 _ _ ?_
        refine wp_seq_k ?_; intro K419 hK419
        refine wp_region_lit ?_
        refine sA hS hR (Yld.move hS rfl) (by decide) ?_; clear hS; intro aa hS
        refine sA hS hR (Yld.assign hS rfl) (by decide) ?_; clear hS; intro aa hS
        refine sA hS hR (Yld.assign hS rfl) (by decide) ?_; clear hS; intro aa hS
        refine wpList_nil ?_
        refine hK419 _ _ ?_
        refine wp_ret ?_
        repeat (first | with_reducible refine thenR ?_ | with_reducible refine blockR ?_ | with_reducible refine scopeR ?_)
        refine retN (fn := Try.f39) (e := .ret) (.inl rfl) Try.results39 hS hR ⟨_, .cons (.tmp rfl) (.cons (.tmp rfl) (.nil)), rfl, ?_⟩
        rw [if_pos (findV_some.2 hh)]
        exact ⟨rfl, Sep.rtrI (TR := 58) (TK := 34) (TI := 3) (b := b) (K := (outK K k)) (most := most) (hGK.out k) rfl rfl rfl rfl (hR.sub exQ)⟩
      refine drawnL 19 (by kernel_rfl) hR ?_; clear hR; intro ww hR; have hR0 := hR
      refine lA 0 rfl (by kernel_rfl) (by kernel_rfl) (by kernel_rfl) (by kernel_rfl) (fun _ _ _ h => h) hS hR0 (Yld.move hS rfl) (by decide) ?_; clear hS; intro aa hS
      refine lA 2 rfl (by kernel_rfl) (by kernel_rfl) (by kernel_rfl) (by kernel_rfl) (fun _ _ _ h => h) hS hR0 (Yld.move hS rfl) (by decide) ?_; clear hS; intro aa hS
      refine lA 3 rfl (by kernel_rfl) (by kernel_rfl) (by kernel_rfl) (by kernel_rfl) (fun _ _ _ h => h) hS hR0 (Yld.nilCheck hS rfl) (by decide) ?_; clear hS; intro aa hS
      refine lA 4 rfl (by kernel_rfl) (by kernel_rfl) (by kernel_rfl) (by kernel_rfl) (fun _ _ _ h => h) hS hR0 (Yld.fieldAddr hS rfl 2 Try.underlying58 rfl rfl info56 (by decide)) (by decide) ?_; clear hS; intro aa hS
      refine lA 5 rfl (by kernel_rfl) (by kernel_rfl) (by kernel_rfl) (by kernel_rfl) (fun _ _ _ h => h) hS hR0 (Yld.load1 hS rfl Try.underlying56 rfl (by first | exact Rd.blk pkQ (by rfl) | exact Rd.rec pkQ (by intro _; rfl) (by omega) rfl | exact Rd.rec0 pkQ (by intro _; rfl) (by omega) rfl | exact Rd.flatJ pkQ (by intro _; rfl) (by omega) rfl | exact Rd.flat0 pkQ (by intro _; rfl) (by omega) rfl)) (by decide) ?_; clear hS; intro aa hS
      refine lA 6 rfl (by kernel_rfl) (by kernel_rfl) (by kernel_rfl) (by kernel_rfl) (fun _ _ _ h => h) hS hR0 (Yld.move hS rfl) (by decide) ?_; clear hS; intro aa hS
      refine lA 7 rfl (by kernel_rfl) (by kernel_rfl) (by kernel_rfl) (by kernel_rfl) (fun _ _ _ h => h) hS hR0 (Yld.sliceHi hS rfl rfl Try.underlying56 info3 (by omega) (by omega)) (by decide) ?_; clear hS; intro aa hS
      refine lA 9 rfl (by kernel_rfl) (by kernel_rfl) (by kernel_rfl) (by kernel_rfl) (fun _ _ _ h => h) hS hR0 (Yld.move hS rfl) (by decide) ?_; clear hS; intro aa hS
      refine lA 10 rfl (by kernel_rfl) (by kernel_rfl) (by kernel_rfl) (by kernel_rfl) (fun _ _ _ h => h) hS hR0 (Yld.nilCheck hS rfl) (by decide) ?_; clear hS; intro aa hS
      refine lA 11 rfl (by kernel_rfl) (by kernel_rfl) (by kernel_rfl) (by kernel_rfl) (fun _ _ _ h => h) hS hR0 (Yld.fieldAddr hS rfl 2 Try.underlying58 rfl rfl info56 (by decide)) (by decide) ?_; clear hS; intro aa hS
      refine lA 12 rfl (by kernel_rfl) (by kernel_rfl) (by kernel_rfl) (by kernel_rfl) (fun _ _ _ h => h) hS hR0 (Yld.load1 hS rfl Try.underlying56 rfl (by first | exact Rd.blk pkQ (by rfl) | exact Rd.rec pkQ (by intro _; rfl) (by omega) rfl | exact Rd.rec0 pkQ (by intro _; rfl) (by omega) rfl | exact Rd.flatJ pkQ (by intro _; rfl) (by omega) rfl | exact Rd.flat0 pkQ (by intro _; rfl) (by omega) rfl)) (by decide) ?_; clear hS; intro aa hS
      refine lA 13 rfl (by kernel_rfl) (by kernel_rfl) (by kernel_rfl) (by kernel_rfl) (fun _ _ _ h => h) hS hR0 (Yld.move hS rfl) (by decide) ?_; clear hS; intro aa hS
      refine lA 14 rfl (by kernel_rfl) (by kernel_rfl) (by kernel_rfl) (by kernel_rfl) (fun _ _ _ h => h) hS hR0 ((by first | exact Yld.add64 hS rfl rfl (by omega) | exact Yld.add hS rfl rfl)) (by decide) ?_; clear hS; intro aa hS
      replace hS := hS.say (t := 57) (.int .i64 ((plc K k + 1 : Nat) : Int)) rfl rfl
      refine lA 15 rfl (by kernel_rfl) (by kernel_rfl) (by kernel_rfl) (by kernel_rfl) (fun _ _ _ h => h) hS hR0 (Yld.sliceLo hS rfl rfl Try.underlying56 info3 (by omega) (by omega)) (by decide) ?_; clear hS; intro aa hS
      refine lOne (i := 1) (by kernel_rfl) ?_
      refine dop rfl (BbuildSlice hS hR rfl (bls56_0_) (by decide) ?_); clear hS hR hR0; intro aa ww bb44 hS hR
      refine lnext (hR.sub exQ) ?_; intro hR0
      replace hR := hR.pk (r := blk bb44 _ _) pkQ
      replace hR := Sep.toRecs (m := 0) (sz := 1) (enc := e1) (([] : List Int)) hR rfl (by intro _; rfl) rfl
      refine lOne (i := 8) (by kernel_rfl) ?_
      refine dop rfl (BappendR (sz := 1) hS hR rfl rfl Try.underlying56 info3 rfl rfl (by rfl) pkQ (XC.upto pkQ (by intro _; rfl) (by omega)) (by intro _; rfl) (by show (_ + _) * 8 ≤ _; first | omega | (simp only [List.length_take, List.length_append, List.length_drop, List.length_cons, List.length_nil, List.length_map]; omega)) (by first | omega | (simp only [List.length_take, List.length_append, List.length_drop, List.length_cons, List.length_nil, List.length_map]; omega)) (by first | rfl | (simp; done) | (simp; omega)) (by decide) ?_); clear hS hR hR0; intro aa ww r51 c51 hS hR
      refine lnext (hR.sub exQ) ?_; intro hR0
      refine lOne (i := 16) (by kernel_rfl) ?_
      refine dop rfl (BappendR (sz := 1) hS hR rfl rfl Try.underlying56 info3 rfl rfl (by rfl) pkQ (XC.part (r := r2) (lo := plc K k + 1) pkQ (by intro _; rfl) (by rfl) (by omega)) (by intro _; rfl) (by show (_ + _) * 8 ≤ _; first | omega | (simp only [List.length_take, List.length_append, List.length_drop, List.length_cons, List.length_nil, List.length_map]; omega)) (by first | omega | (simp only [List.length_take, List.length_append, List.length_drop, List.length_cons, List.length_nil, List.length_map]; omega)) (by first | rfl | (simp; done) | (simp; omega)) (by decide) ?_); clear hS hR hR0; intro aa ww r59 c59 hS hR
      refine lnext (hR.sub exQ) ?_; intro hR0
      simp only [Int.toNat_natCast] at hS hR
      rw [out_vals hG hk hh] at hS hR
      refine lOne (i := 17) (by kernel_rfl) ?_
      refine dop rfl (BA hS hR (Yld.nilCheck hS rfl) (by decide) ?_); clear hS; intro aa hS; refine ⟨fun _ => hR0, ?_⟩
      refine lA 18 rfl (by kernel_rfl) (by kernel_rfl) (by kernel_rfl) (by kernel_rfl) (fun _ _ _ h => h) hS hR0 (Yld.fieldAddr hS rfl 2 Try.underlying58 rfl rfl info56 (by decide)) (by decide) ?_; clear hS; intro aa hS
      refine lOne (i := 19) (by kernel_rfl) ?_
      refine dop rfl (Bstore hS hR rfl rfl (by rfl) info56 (by rfl) pkQ (by rfl) (Nat.le_of_ble_eq_true rfl) ?_); clear hR hR0; intro ww hR
      refine lend ?_
      refine wpAnyL_done (by kernel_rfl) ?_ _; try clear hR0
      try dsimp only [lay, List.set] at hR
      exact tail418 r59 c59 _ _ (hS.le (Le.cons rfl (Le.nil _))) (hR.sub exQ)
    refine drawnL 19 (by kernel_rfl) hR ?_; clear hR; intro ww hR; have hR0 := hR
    refine lA 0 rfl (by kernel_rfl) (by kernel_rfl) (by kernel_rfl) (by kernel_rfl) (fun _ _ _ h => h) hS hR0 (Yld.move hS rfl) (by decide) ?_; clear hS; intro aa hS
    refine lA 2 rfl (by kernel_rfl) (by kernel_rfl) (by kernel_rfl) (by kernel_rfl) (fun _ _ _ h => h) hS hR0 (Yld.move hS rfl) (by decide) ?_; clear hS; intro aa hS
    refine lA 3 rfl (by kernel_rfl) (by kernel_rfl) (by kernel_rfl) (by kernel_rfl) (fun _ _ _ h => h) hS hR0 (Yld.nilCheck hS rfl) (by decide) ?_; clear hS; intro aa hS
    refine lA 4 rfl (by kernel_rfl) (by kernel_rfl) (by kernel_rfl) (by kernel_rfl) (fun _ _ _ h => h) hS hR0 (Yld.fieldAddr hS rfl 1 Try.underlying58 rfl rfl info24 (by decide)) (by decide) ?_; clear hS; intro aa hS
    refine lA 5 rfl (by kernel_rfl) (by kernel_rfl) (by kernel_rfl) (by kernel_rfl) (fun _ _ _ h => h) hS hR0 (Yld.load1 hS rfl Try.underlying24 rfl (by first | exact Rd.blk pkQ (by rfl) | exact Rd.rec pkQ (by intro _; rfl) (by omega) rfl | exact Rd.rec0 pkQ (by intro _; rfl) (by omega) rfl | exact Rd.flatJ pkQ (by intro _; rfl) (by omega) rfl | exact Rd.flat0 pkQ (by intro _; rfl) (by omega) rfl)) (by decide) ?_; clear hS; intro aa hS
    refine lA 6 rfl (by kernel_rfl) (by kernel_rfl) (by kernel_rfl) (by kernel_rfl) (fun _ _ _ h => h) hS hR0 (Yld.move hS rfl) (by decide) ?_; clear hS; intro aa hS
    refine lA 7 rfl (by kernel_rfl) (by kernel_rfl) (by kernel_rfl) (by kernel_rfl) (fun _ _ _ h => h) hS hR0 (Yld.sliceHi hS rfl rfl Try.underlying24 info34 (by omega) (by omega)) (by decide) ?_; clear hS; intro aa hS
    refine lA 9 rfl (by kernel_rfl) (by kernel_rfl) (by kernel_rfl) (by kernel_rfl) (fun _ _ _ h => h) hS hR0 (Yld.move hS rfl) (by decide) ?_; clear hS; intro aa hS
    refine lA 10 rfl (by kernel_rfl) (by kernel_rfl) (by kernel_rfl) (by kernel_rfl) (fun _ _ _ h => h) hS hR0 (Yld.nilCheck hS rfl) (by decide) ?_; clear hS; intro aa hS
    refine lA 11 rfl (by kernel_rfl) (by kernel_rfl) (by kernel_rfl) (by kernel_rfl) (fun _ _ _ h => h) hS hR0 (Yld.fieldAddr hS rfl 1 Try.underlying58 rfl rfl info24 (by decide)) (by decide) ?_; clear hS; intro aa hS
    refine lA 12 rfl (by kernel_rfl) (by kernel_rfl) (by kernel_rfl) (by kernel_rfl) (fun _ _ _ h => h) hS hR0 (Yld.load1 hS rfl Try.underlying24 rfl (by first | exact Rd.blk pkQ (by rfl) | exact Rd.rec pkQ (by intro _; rfl) (by omega) rfl | exact Rd.rec0 pkQ (by intro _; rfl) (by omega) rfl | exact Rd.flatJ pkQ (by intro _; rfl) (by omega) rfl | exact Rd.flat0 pkQ (by intro _; rfl) (by omega) rfl)) (by decide) ?_; clear hS; intro aa hS
    refine lA 13 rfl (by kernel_rfl) (by kernel_rfl) (by kernel_rfl) (by kernel_rfl) (fun _ _ _ h => h) hS hR0 (Yld.move hS rfl) (by decide) ?_; clear hS; intro aa hS
    refine lA 14 rfl (by kernel_rfl) (by kernel_rfl) (by kernel_rfl) (by kernel_rfl) (fun _ _ _ h => h) hS hR0 ((by first | exact Yld.add64 hS rfl rfl (by omega) | exact Yld.add hS rfl rfl)) (by decide) ?_; clear hS; intro aa hS
    replace hS := hS.say (t := 38) (.int .i64 ((plc K k + 1 : Nat) : Int)) rfl rfl
    refine lA 15 rfl (by kernel_rfl) (by kernel_rfl) (by kernel_rfl) (by kernel_rfl) (fun _ _ _ h => h) hS hR0 (Yld.sliceLo hS rfl rfl Try.underlying24 info34 (by omega) (by omega)) (by decide) ?_; clear hS; intro aa hS
    refine lOne (i := 1) (by kernel_rfl) ?_
    refine dop rfl (BbuildSlice hS hR rfl (bls24_0_) (by decide) ?_); clear hS hR hR0; intro aa ww bb25 hS hR
    refine lnext (hR.sub exQ) ?_; intro hR0
    replace hR := hR.pk (r := blk bb25 _ _) pkQ
    replace hR := Sep.toRecs (m := 0) (sz := 5) (enc := eK) (([] : List Ky)) hR rfl (by intro _; rfl) rfl
    refine lOne (i := 8) (by kernel_rfl) ?_
    refine dop rfl (BappendR (sz := 5) hS hR rfl rfl Try.underlying24 info34 rfl rfl (by rfl) pkQ (XC.upto pkQ (by intro _; rfl) (by omega)) (by intro _; rfl) (by show (_ + _) * 16 ≤ _; first | omega | (simp only [List.length_take, List.length_append, List.length_drop, List.length_cons, List.length_nil, List.length_map]; omega)) (by first | omega | (simp only [List.length_take, List.length_append, List.length_drop, List.length_cons, List.length_nil, List.length_map]; omega)) (by first | rfl | (simp; done) | (simp; omega)) (by decide) ?_); clear hS hR hR0; intro aa ww r32 c32 hS hR
    refine lnext (hR.sub exQ) ?_; intro hR0
    refine lOne (i := 16) (by kernel_rfl) ?_
    refine dop rfl (BappendR (sz := 5) hS hR rfl rfl Try.underlying24 info34 rfl rfl (by rfl) pkQ (XC.part (r := r1) (lo := plc K k + 1) pkQ (by intro _; rfl) (by rfl) (by omega)) (by intro _; rfl) (by show (_ + _) * 16 ≤ _; first | omega | (simp only [List.length_take, List.length_append, List.length_drop, List.length_cons, List.length_nil, List.length_map]; omega)) (by first | omega | (simp only [List.length_take, List.length_append, List.length_drop, List.length_cons, List.length_nil, List.length_map]; omega)) (by first | rfl | (simp; done) | (simp; omega)) (by decide) ?_); clear hS hR hR0; intro aa ww r40 c40 hS hR
    refine lnext (hR.sub exQ) ?_; intro hR0
    simp only [Int.toNat_natCast] at hS hR
    rw [out_keys hG hk hh] at hS hR
    refine lOne (i := 17) (by kernel_rfl) ?_
    refine dop rfl (BA hS hR (Yld.nilCheck hS rfl) (by decide) ?_); clear hS; intro aa hS; refine ⟨fun _ => hR0, ?_⟩
    refine lA 18 rfl (by kernel_rfl) (by kernel_rfl) (by kernel_rfl) (by kernel_rfl) (fun _ _ _ h => h) hS hR0 (Yld.fieldAddr hS rfl 1 Try.underlying58 rfl rfl info24 (by decide)) (by decide) ?_; clear hS; intro aa hS
    refine lOne (i := 19) (by kernel_rfl) ?_
    refine dop rfl (Bstore hS hR rfl rfl (by rfl) info24 (by rfl) pkQ (by rfl) (Nat.le_of_ble_eq_true rfl) ?_); clear hR hR0; intro ww hR
    refine lend ?_
    refine wpAnyL_done (by kernel_rfl) ?_ _; try clear hR0
    try dsimp only [lay, List.set] at hR
    exact tail417 r40 c40 _ _ (hS.le (Le.cons rfl (Le.cons rfl (Le.cons rfl (Le.nil _))))) (hR.sub exQ)
  · intro hg hS
    have hn : ¬ has K k := fun h => by rw [findV_some.2 h] at hg; cases hg
    refine sA hS hR (Yld.not hS rfl) (by decide) ?_; clear hS; intro aa hS
    refine wpList_nil ?_
    refine hK415 _ _ ?_
    refine condT hS rfl ?_
    refine wp_seq_k ?_; intro K420 hK420
    refine wp_region_lit ?_
    refine sA hS hR (Yld.assign hS rfl) (by decide) ?_; clear hS; intro aa hS
    refine sA hS hR (Yld.assign hS rfl) (by decide) ?_; clear hS; intro aa hS
    refine wpList_nil ?_
    refine hK420 _ _ ?_
    refine wp_ret ?_
    repeat (first | with_reducible refine thenR ?_ | with_reducible refine blockR ?_ | with_reducible refine scopeR ?_)
    refine retN (fn := Try.f39) (e := .ret) (.inl rfl) Try.results39 hS hR ⟨_, .cons (.tmp rfl) (.cons (.tmp rfl) (.nil)), rfl, ?_⟩
    rw [findV_no hn, outK_no hn]
    exact ⟨rfl, (hR.sub exQ)⟩
set_option maxHeartbeats 4000000 in
set_option maxRecDepth 20000 in
theorem RUnder_ok {K : List (Ky × Int)} {most : Int} {k : Ky} {b : Nat} {l : List HP} {w : World} {n : Int} (hR : Sep (rtrA 58 34 3 b K most :: l) w) (hk : WfK k) : CallR Try.prog 30 [.pointer (some ⟨b, 0, none⟩), vK k, .int .i64 n] w (fun v w' => ∃ r c, v = .slice r (undK K k n).length c ∧ Sep (sls r (undK K k n).length c 34 5 ((undK K k n).flatMap eK) :: rtrA 58 34 3 b K most :: l) w') := by
  refine enter Try.func30 rfl Try.ntmps30 (Nat.le_of_ble_eq_true rfl) ?_; intro aa hS
  refine wp_seq_k ?_; intro K421 hK421
  refine wp_region_lit ?_
  refine sB (Bbox hS hR rfl (by rfl) (by decide) ?_); clear hS hR; intro aa ww bb4 hS hR
  refine sA hS hR (Yld.assign hS rfl) (by decide) ?_; clear hS; intro aa hS
  refine wpList_nil ?_
  refine hK421 _ _ ?_
  refine wp_seq_k ?_; intro K422 hK422
  refine wp_seq_k ?_; intro K423 hK423
  refine wp_region_lit ?_
  refine sA hS hR (Yld.move hS rfl) (by decide) ?_; clear hS; intro aa hS
  refine sA hS hR (Yld.lss hS rfl rfl) (by decide) ?_; clear hS; intro aa hS
  refine sA hS hR (Yld.move hS rfl) (by decide) ?_; clear hS; intro aa hS
  refine hS.splitB (t := 11) rfl ?_ ?_ <;> clear hS
  · intro hg hS
    refine sSkip hS rfl rfl rfl (by decide) ?_; clear hS; intro aa hS
    refine sSkip hS rfl rfl rfl (by decide) ?_; clear hS; intro aa hS
    refine sA hS hR (Yld.pickT hS rfl rfl) (by decide) ?_; clear hS; intro aa hS
    refine wpList_nil ?_
    refine hK423 _ _ ?_
    refine condT hS rfl ?_
    refine wp_seq_k ?_; intro K424 hK424
    refine wp_region_lit ?_
    refine sA hS hR (Yld.assign hS rfl) (by decide) ?_; clear hS; intro aa hS
    refine wpList_nil ?_
    refine hK424 _ _ ?_
    refine wp_ret ?_
    repeat (first | with_reducible refine thenR ?_ | with_reducible refine blockR ?_ | with_reducible refine scopeR ?_)
    refine ret1 (fn := Try.f30) (e := .ret) (.inl rfl) Try.results30 hS hR ⟨_, (.tmp rfl), ?_⟩
    replace hR := hR.slsNil (T := 34) (sz := 5)
    have h9 : Sep (sls none 0 0 34 5 [] :: rtrA 58 34 3 b K most :: l) _ := (hR.sub exQ)
    rw [show undK K k n = [] from und_off (by omega)]
    exact ⟨none, 0, rfl, h9⟩
  · intro hg hS
    refine sAg hS hR rfl rfl (Yld.move hS rfl) (by decide) ?_; clear hS; intro aa hS
    refine sAg hS hR rfl rfl (Yld.gtr hS rfl rfl) (by decide) ?_; clear hS; intro aa hS
    refine sA hS hR (Yld.pickF hS rfl rfl) (by decide) ?_; clear hS; intro aa hS
    refine wpList_nil ?_
    refine hK423 _ _ ?_
    refine hS.splitB (t := 14) rfl ?_ ?_ <;> clear hS
    · intro hg hS
      have hz : undK K k n = [] := und_off (by omega)
      refine condT hS rfl ?_
      refine wp_seq_k ?_; intro K425 hK425
      refine wp_region_lit ?_
      refine sA hS hR (Yld.assign hS rfl) (by decide) ?_; clear hS; intro aa hS
      refine wpList_nil ?_
      refine hK425 _ _ ?_
      refine wp_ret ?_
      repeat (first | with_reducible refine thenR ?_ | with_reducible refine blockR ?_ | with_reducible refine scopeR ?_)
      refine ret1 (fn := Try.f30) (e := .ret) (.inl rfl) Try.results30 hS hR ⟨_, (.tmp rfl), ?_⟩
      replace hR := hR.slsNil (T := 34) (sz := 5)
      have h9 : Sep (sls none 0 0 34 5 [] :: rtrA 58 34 3 b K most :: l) _ := (hR.sub exQ)
      rw [show undK K k n = [] from und_off (by omega)]
      exact ⟨none, 0, rfl, h9⟩
    · intro hg hS
      obtain ⟨r1, c1, r2, c2, hGK, hR⟩ := (hR.pk (r := rtrA _ _ _ b _ _) pkQ).rtrE
      have hG := hGK.good
      have hsl := hGK.slen
      have hvl := vals_len (K := K)
      have hcp1 := (hR.pk (r := sls r1 _ _ _ _ _) pkQ).slsLe.1
      have hcp2 := (hR.pk (r := sls r2 _ _ _ _ _) pkQ).slsLe.1
      obtain ⟨m, rfl⟩ : ∃ m : Nat, n = m := ⟨n.toNat, by omega⟩
      have hm26 : m ≤ 26 := by omega
      refine condF hS rfl ?_
      refine wp_skip ?_
      refine hK422 _ _ ?_
      refine wp_seq_k ?_; intro K426 hK426
      refine wp_region_lit ?_
      refine sA hS hR (Yld.assign hS rfl) (by decide) ?_; clear hS; intro aa hS
      refine wpList_nil ?_
      refine hK426 _ _ ?_
      refine wp_seq_k ?_; intro K427 hK427
      refine wp_seq_k ?_; intro K428 hK428
      refine wp_region_lit ?_
      refine sA hS hR (Yld.assign hS rfl) (by decide) ?_; clear hS; intro aa hS
      refine wpList_nil ?_
      refine hK428 _ _ ?_
      refine wp_block ?_
      replace hR := hR.slsNil (T := 34) (sz := 5)
      replace hR := hR.pk (r := sls none 0 0 34 5 []) pkQ
      refine loopI (X := Nat × Option Addr × Nat) [(0, _), (2, _), (4, _), (6, _)] (fun x => [(7, .slice x.2.1 (filTo (srt K) k m x.1).length x.2.2), (8, .int .i64 (x.1 : Int))]) (fun x => [sls x.2.1 (filTo (srt K) k m x.1).length x.2.2 34 5 ((filTo (srt K) k m x.1).flatMap eK)]) _ (fun x => x.1 ≤ (srt K).length) (fun x => (srt K).length - x.1) (0, none, 0) (Nat.zero_le _) (hS.le (Le.cons rfl (Le.cons rfl (Le.nilapp (Le.cons rfl (Le.cons rfl (Le.cons rfl (Le.cons rfl (Le.nil _))))))))) hR ?_
      clear hS hR; rintro ⟨i, r0, c0⟩ aa ww hI hS hR; dsimp only [List.cons_append, List.nil_append] at hI hS hR
      have hfl := filTo_len (ks := srt K) (k := k) (n := m) (i := i)
      refine wp_seq_k ?_; intro K430 hK430
      refine wp_seq_k ?_; intro K431 hK431
      refine wp_region_lit ?_
      refine sA hS hR (Yld.move hS rfl) (by decide) ?_; clear hS; intro aa hS
      refine sA hS hR (Yld.move hS rfl) (by decide) ?_; clear hS; intro aa hS
      refine sA hS hR (Yld.nilCheck hS rfl) (by decide) ?_; clear hS; intro aa hS
      refine sA hS hR (Yld.fieldAddr hS rfl 1 Try.underlying58 rfl rfl info24 (by decide)) (by decide) ?_; clear hS; intro aa hS
      refine sA hS hR (Yld.load1 hS rfl Try.underlying24 rfl (by first | exact Rd.blk pkQ (by rfl) | exact Rd.rec pkQ (by intro _; rfl) (by omega) rfl | exact Rd.rec0 pkQ (by intro _; rfl) (by omega) rfl | exact Rd.flatJ pkQ (by intro _; rfl) (by omega) rfl | exact Rd.flat0 pkQ (by intro _; rfl) (by omega) rfl)) (by decide) ?_; clear hS; intro aa hS
      refine sA hS hR (Yld.len hS rfl Try.underlying24) (by decide) ?_; clear hS; intro aa hS
      refine sA hS hR (Yld.lss hS rfl rfl) (by decide) ?_; clear hS; intro aa hS
      refine wpList_nil ?_
      refine hK431 _ _ ?_
      refine hS.splitB (t := 21) rfl ?_ ?_ <;> clear hS
      · intro hg hS
        refine condT hS rfl ?_
        refine wp_skip ?_
        refine hK430 _ _ ?_
        refine wp_seq_k ?_; intro K432 hK432
        refine wp_block ?_
        refine wp_seq_k ?_; intro K433 hK433
        refine drawn (by kernel_rfl) hR Ex.refl ?_; clear hR; intro ww hR hR0
        refine dA 0 rfl (by kernel_rfl) (by kernel_rfl) (by kernel_rfl) (fun _ _ _ h => h) hS hR0 (Yld.move hS rfl) (by decide) ?_; clear hS; intro aa hS
        refine dA 1 rfl (by kernel_rfl) (by kernel_rfl) (by kernel_rfl) (fun _ _ _ h => h) hS hR0 (Yld.nilCheck hS rfl) (by decide) ?_; clear hS; intro aa hS
        refine dA 2 rfl (by kernel_rfl) (by kernel_rfl) (by kernel_rfl) (fun _ _ _ h => h) hS hR0 (Yld.fieldAddr hS rfl 1 Try.underlying58 rfl rfl info24 (by decide)) (by decide) ?_; clear hS; intro aa hS
        refine dA 3 rfl (by kernel_rfl) (by kernel_rfl) (by kernel_rfl) (fun _ _ _ h => h) hS hR0 (Yld.load1 hS rfl Try.underlying24 rfl (by first | exact Rd.blk pkQ (by rfl) | exact Rd.rec pkQ (by intro _; rfl) (by omega) rfl | exact Rd.rec0 pkQ (by intro _; rfl) (by omega) rfl | exact Rd.flatJ pkQ (by intro _; rfl) (by omega) rfl | exact Rd.flat0 pkQ (by intro _; rfl) (by omega) rfl)) (by decide) ?_; clear hS; intro aa hS
        refine dA 4 rfl (by kernel_rfl) (by kernel_rfl) (by kernel_rfl) (fun _ _ _ h => h) hS hR0 (Yld.move hS rfl) (by decide) ?_; clear hS; intro aa hS
        refine dA 5 rfl (by kernel_rfl) (by kernel_rfl) (by kernel_rfl) (fun _ _ _ h => h) hS hR0 ((by first | exact Yld.indexL (sz := 5) (i) hS rfl rfl Try.underlying24 info34 pkQ rfl (by first | rfl | omega) (by omega) | exact Yld.indexB (sz := 5) (i) hS rfl rfl Try.underlying24 info34 rfl (by first | rfl | omega) (by omega))) (by decide) ?_; clear hS; intro aa hS
        refine dA 6 rfl (by kernel_rfl) (by kernel_rfl) (by kernel_rfl) (fun _ _ _ h => h) hS hR0 (Yld.loadAgg hS rfl Try.underlying34 rfl info34 (by first | exact Rds.cons (Rd.blk pkQ (by rfl)) (Rds.cons (Rd.blk pkQ (by rfl)) (Rds.cons (Rd.blk pkQ (by rfl)) (Rds.cons (Rd.blk pkQ (by rfl)) (Rds.cons (Rd.blk pkQ (by rfl)) (Rds.nil))))) | exact Rds.rec pkQ (by intro _; rfl) (by omega) | exact Rds.flat1 pkQ (by intro _; rfl) (by omega)) (by rfl)) (by decide) ?_; clear hS; intro aa hS
        obtain ⟨y0, y0e⟩ : ∃ y : Ky, (srt K)[i] = y := ⟨_, rfl⟩
        have hy0 := (has_get hG (by omega) y0e).2
        replace hS := hS.say (t := 30) (vK y0) rfl (by rw [y0e])
        refine dA 7 rfl (by kernel_rfl) (by kernel_rfl) (by kernel_rfl) (fun _ _ _ h => h) hS hR0 (Yld.loadAgg hS rfl Try.underlying34 rfl info34 (by first | exact Rds.cons (Rd.blk pkQ (by rfl)) (Rds.cons (Rd.blk pkQ (by rfl)) (Rds.cons (Rd.blk pkQ (by rfl)) (Rds.cons (Rd.blk pkQ (by rfl)) (Rds.cons (Rd.blk pkQ (by rfl)) (Rds.nil))))) | exact Rds.rec pkQ (by intro _; rfl) (by omega) | exact Rds.flat1 pkQ (by intro _; rfl) (by omega)) (by rfl)) (by decide) ?_; clear hS; intro aa hS
        refine dA 9 rfl (by kernel_rfl) (by kernel_rfl) (by kernel_rfl) (fun _ _ _ h => h) hS hR0 (Yld.move hS rfl) (by decide) ?_; clear hS; intro aa hS
        refine dOne (i := 8) (by kernel_rfl) ?_
        refine dop rfl (Bcall hS rfl Try.call43 (Alike_ok (a := y0) (b := k) hR hy0 hk) (by decide) ?_); clear hS; intro aa ww vv hS hp
        clear hR hR0
        obtain ⟨rfl, hR⟩ := hp
        refine dnext (hR.sub exQ) ?_; intro hR0
        refine dA 10 rfl (by kernel_rfl) (by kernel_rfl) (by kernel_rfl) (fun _ _ _ h => h) hS hR0 (Yld.geq hS rfl rfl) (by decide) ?_; clear hS; intro aa hS
        refine wpAnyH_done (by kernel_rfl) ?_ _; clear hR0
        refine hK433 _ _ ?_
        refine hS.splitB (t := 34) rfl ?_ ?_ <;> clear hS
        · intro hg hS
          have hy := filTo_yes (ks := srt K) (k := k) (n := m) (i := i) (by omega) (by rw [y0e]; omega)
          rw [y0e] at hy
          refine condT hS rfl ?_
          refine wp_region_lit ?_
          refine sA hS hR (Yld.move hS rfl) (by decide) ?_; clear hS; intro aa hS
          refine sA hS hR (Yld.move hS rfl) (by decide) ?_; clear hS; intro aa hS
          refine sA hS hR (Yld.nilCheck hS rfl) (by decide) ?_; clear hS; intro aa hS
          refine sA hS hR (Yld.fieldAddr hS rfl 1 Try.underlying58 rfl rfl info24 (by decide)) (by decide) ?_; clear hS; intro aa hS
          refine sA hS hR (Yld.load1 hS rfl Try.underlying24 rfl (by first | exact Rd.blk pkQ (by rfl) | exact Rd.rec pkQ (by intro _; rfl) (by omega) rfl | exact Rd.rec0 pkQ (by intro _; rfl) (by omega) rfl | exact Rd.flatJ pkQ (by intro _; rfl) (by omega) rfl | exact Rd.flat0 pkQ (by intro _; rfl) (by omega) rfl)) (by decide) ?_; clear hS; intro aa hS
          refine sA hS hR (Yld.move hS rfl) (by decide) ?_; clear hS; intro aa hS
          refine sA hS hR ((by first | exact Yld.indexL (sz := 5) (i) hS rfl rfl Try.underlying24 info34 pkQ rfl (by first | rfl | omega) (by omega) | exact Yld.indexB (sz := 5) (i) hS rfl rfl Try.underlying24 info34 rfl (by first | rfl | omega) (by omega))) (by decide) ?_; clear hS; intro aa hS
          refine sA hS hR (Yld.loadAgg hS rfl Try.underlying34 rfl info34 (by first | exact Rds.cons (Rd.blk pkQ (by rfl)) (Rds.cons (Rd.blk pkQ (by rfl)) (Rds.cons (Rd.blk pkQ (by rfl)) (Rds.cons (Rd.blk pkQ (by rfl)) (Rds.cons (Rd.blk pkQ (by rfl)) (Rds.nil))))) | exact Rds.rec pkQ (by intro _; rfl) (by omega) | exact Rds.flat1 pkQ (by intro _; rfl) (by omega)) (by rfl)) (by decide) ?_; clear hS; intro aa hS
          replace hS := hS.say (t := 42) (vK y0) rfl (by rw [y0e])
          refine sB (BbuildSlice hS hR rfl (bls24_1_0 _ _ _ _ _) (by decide) ?_); clear hS hR; intro aa ww bb43 hS hR
          refine sB (BappendR (sz := 5) hS hR rfl rfl Try.underlying24 info34 rfl rfl (by rfl) pkQ (XC.one (y0) pkQ (by rfl) rfl) (by intro _; rfl) (by show (_ + _) * 16 ≤ _; first | omega | (simp only [List.length_take, List.length_append, List.length_drop, List.length_cons, List.length_nil, List.length_map]; omega)) (by first | omega | (simp only [List.length_take, List.length_append, List.length_drop, List.length_cons, List.length_nil, List.length_map]; omega)) (by first | rfl | (simp; done) | (simp; omega)) (by decide) ?_); clear hS hR; intro aa ww r44 c44 hS hR
          rw [← hy] at hS hR
          refine sA hS hR (Yld.assign hS rfl) (by decide) ?_; clear hS; intro aa hS
          refine wpList_nil ?_
          refine hK432 _ _ ?_
          refine wp_region_lit ?_
          refine sA hS hR (Yld.move hS rfl) (by decide) ?_; clear hS; intro aa hS
          refine sA hS hR ((by first | exact Yld.add64 hS rfl rfl (by omega) | exact Yld.add hS rfl rfl)) (by decide) ?_; clear hS; intro aa hS
          refine sA hS hR (Yld.assign hS rfl) (by decide) ?_; clear hS; intro aa hS
          refine wpList_nil ?_
          
          refine ⟨(i + 1, _, _), ?_, ?_, hS.le (Le.cons rfl (Le.cons rfl (Le.nilapp (Le.cons rfl (Le.cons rfl (Le.cons rfl (Le.cons rfl (Le.nil _)))))))), hR.sub (Ex.take pkQ (Ex.nilapp exQ))⟩
          · dsimp only; omega
          · dsimp only; omega
        · intro hg hS
          have hy := filTo_no (ks := srt K) (k := k) (n := m) (i := i) (by omega) (by rw [y0e]; omega)
          rw [← hy] at hS hR
          refine condF hS rfl ?_
          refine wp_skip ?_
          refine hK432 _ _ ?_
          refine wp_region_lit ?_
          refine sA hS hR (Yld.move hS rfl) (by decide) ?_; clear hS; intro aa hS
          refine sA hS hR ((by first | exact Yld.add64 hS rfl rfl (by omega) | exact Yld.add hS rfl rfl)) (by decide) ?_; clear hS; intro aa hS
          refine sA hS hR (Yld.assign hS rfl) (by decide) ?_; clear hS; intro aa hS
          refine wpList_nil ?_
          
          refine ⟨(i + 1, _, _), ?_, ?_, hS.le (Le.cons rfl (Le.cons rfl (Le.nilapp (Le.cons rfl (Le.cons rfl (Le.cons rfl (Le.cons rfl (Le.nil _)))))))), hR.sub (Ex.take pkQ (Ex.nilapp exQ))⟩
          · dsimp only; omega
          · dsimp only; omega
      · intro hg hS
        obtain rfl : i = (srt K).length := by omega
        rw [filTo_all hG hm26, show undK' K k (m : Int) = undK K k (m : Int) from rfl] at hS hR
        refine condF hS rfl ?_
        refine wp_exit ?_
        refine hK427 _ _ ?_
        refine wp_seq_k ?_; intro K434 hK434
        refine wp_region_lit ?_
        refine sA hS hR (Yld.move hS rfl) (by decide) ?_; clear hS; intro aa hS
        refine sA hS hR (Yld.assign hS rfl) (by decide) ?_; clear hS; intro aa hS
        refine wpList_nil ?_
        refine hK434 _ _ ?_
        refine wp_ret ?_
        repeat (first | with_reducible refine thenR ?_ | with_reducible refine blockR ?_ | with_reducible refine scopeR ?_)
        refine ret1 (fn := Try.f30) (e := .ret) (.inl rfl) Try.results30 hS hR ⟨_, (.tmp rfl), ?_⟩
        have h9 : Sep (rtrA 58 34 3 b K most :: sls r0 (undK K k (m : Int)).length c0 34 5 ((undK K k (m : Int)).flatMap eK) :: l) _ := Sep.rtrI (TR := 58) (TK := 34) (TI := 3) (b := b) (K := K) (most := most) hGK rfl rfl rfl rfl (hR.sub exQ)
        exact ⟨r0, c0, rfl, h9.swap⟩
set_option maxHeartbeats 4000000 in
set_option maxRecDepth 20000 in
theorem RSteps_ok {K : List (Ky × Int)} {most : Int} {k : Ky} {b : Nat} {l : List HP} {w : World} (hR : Sep (rtrA 58 34 3 b K most :: l) w) (hk : WfK k) : CallR Try.prog 41 [.pointer (some ⟨b, 0, none⟩), vK k] w (fun v w' => v = .int .i64 (findN (cK K) (dl k) 26) ∧ Sep (rtrA 58 34 3 b K most :: l) w') := by
  refine enter Try.func41 rfl Try.ntmps41 (Nat.le_of_ble_eq_true rfl) ?_; intro aa hS
  obtain ⟨r1, c1, r2, c2, hGK, hR⟩ := (hR.pk (r := rtrA _ _ _ b _ _) pkQ).rtrE
  have hG := hGK.good
  have hsl := hGK.slen
  have hvl := vals_len (K := K)
  have hcp1 := (hR.pk (r := sls r1 _ _ _ _ _) pkQ).slsLe.1
  have hcp2 := (hR.pk (r := sls r2 _ _ _ _ _) pkQ).slsLe.1
  refine wp_seq_k ?_; intro K435 hK435
  refine wp_region_lit ?_
  refine sB (Bbox hS hR rfl (by rfl) (by decide) ?_); clear hS hR; intro aa ww bb3 hS hR
  refine sA hS hR (Yld.assign hS rfl) (by decide) ?_; clear hS; intro aa hS
  refine wpList_nil ?_
  refine hK435 _ _ ?_
  refine wp_seq_k ?_; intro K436 hK436
  refine wp_region_lit ?_
  refine sA hS hR (Yld.assign hS rfl) (by decide) ?_; clear hS; intro aa hS
  refine wpList_nil ?_
  refine hK436 _ _ ?_
  refine wp_seq_k ?_; intro K437 hK437
  refine wp_seq_k ?_; intro K438 hK438
  refine wp_region_lit ?_
  refine sA hS hR (Yld.assign hS rfl) (by decide) ?_; clear hS; intro aa hS
  refine wpList_nil ?_
  refine hK438 _ _ ?_
  refine wp_block ?_
  refine loopI (X := Nat) [(0, _), (3, _), (4, _)] (fun x => [(5, .int .i64 ((mxTo (srt K) k x : Nat) : Int)), (6, .int .i64 (x : Int))]) (fun x => []) _ (fun x => x ≤ (srt K).length) (fun x => (srt K).length - x) 0 (Nat.zero_le _) (hS.le (Le.cons rfl (Le.cons rfl (Le.nilapp (Le.cons rfl (Le.cons rfl (Le.cons rfl (Le.nil _)))))))) hR ?_
  clear hS hR; rintro i aa ww hI hS hR; dsimp only [List.cons_append, List.nil_append] at hI hS hR
  have hml := mxTo_le (k := k) hI
  refine wp_seq_k ?_; intro K440 hK440
  refine wp_seq_k ?_; intro K441 hK441
  refine wp_region_lit ?_
  refine sA hS hR (Yld.move hS rfl) (by decide) ?_; clear hS; intro aa hS
  refine sA hS hR (Yld.move hS rfl) (by decide) ?_; clear hS; intro aa hS
  refine sA hS hR (Yld.nilCheck hS rfl) (by decide) ?_; clear hS; intro aa hS
  refine sA hS hR (Yld.fieldAddr hS rfl 1 Try.underlying58 rfl rfl info24 (by decide)) (by decide) ?_; clear hS; intro aa hS
  refine sA hS hR (Yld.load1 hS rfl Try.underlying24 rfl (by first | exact Rd.blk pkQ (by rfl) | exact Rd.rec pkQ (by intro _; rfl) (by omega) rfl | exact Rd.rec0 pkQ (by intro _; rfl) (by omega) rfl | exact Rd.flatJ pkQ (by intro _; rfl) (by omega) rfl | exact Rd.flat0 pkQ (by intro _; rfl) (by omega) rfl)) (by decide) ?_; clear hS; intro aa hS
  refine sA hS hR (Yld.len hS rfl Try.underlying24) (by decide) ?_; clear hS; intro aa hS
  refine sA hS hR (Yld.lss hS rfl rfl) (by decide) ?_; clear hS; intro aa hS
  refine wpList_nil ?_
  refine hK441 _ _ ?_
  refine hS.splitB (t := 14) rfl ?_ ?_ <;> clear hS
  · intro hg hS
    refine condT hS rfl ?_
    refine wp_skip ?_
    refine hK440 _ _ ?_
    refine wp_seq_k ?_; intro K442 hK442
    refine wp_block ?_
    refine wp_seq_k ?_; intro K443 hK443
    refine drawn (by kernel_rfl) hR Ex.refl ?_; clear hR; intro ww hR hR0
    refine dA 0 rfl (by kernel_rfl) (by kernel_rfl) (by kernel_rfl) (fun _ _ _ h => h) hS hR0 (Yld.move hS rfl) (by decide) ?_; clear hS; intro aa hS
    refine dA 1 rfl (by kernel_rfl) (by kernel_rfl) (by kernel_rfl) (fun _ _ _ h => h) hS hR0 (Yld.nilCheck hS rfl) (by decide) ?_; clear hS; intro aa hS
    refine dA 2 rfl (by kernel_rfl) (by kernel_rfl) (by kernel_rfl) (fun _ _ _ h => h) hS hR0 (Yld.fieldAddr hS rfl 1 Try.underlying58 rfl rfl info24 (by decide)) (by decide) ?_; clear hS; intro aa hS
    refine dA 3 rfl (by kernel_rfl) (by kernel_rfl) (by kernel_rfl) (fun _ _ _ h => h) hS hR0 (Yld.load1 hS rfl Try.underlying24 rfl (by first | exact Rd.blk pkQ (by rfl) | exact Rd.rec pkQ (by intro _; rfl) (by omega) rfl | exact Rd.rec0 pkQ (by intro _; rfl) (by omega) rfl | exact Rd.flatJ pkQ (by intro _; rfl) (by omega) rfl | exact Rd.flat0 pkQ (by intro _; rfl) (by omega) rfl)) (by decide) ?_; clear hS; intro aa hS
    refine dA 4 rfl (by kernel_rfl) (by kernel_rfl) (by kernel_rfl) (fun _ _ _ h => h) hS hR0 (Yld.move hS rfl) (by decide) ?_; clear hS; intro aa hS
    refine dA 5 rfl (by kernel_rfl) (by kernel_rfl) (by kernel_rfl) (fun _ _ _ h => h) hS hR0 ((by first | exact Yld.indexL (sz := 5) (i) hS rfl rfl Try.underlying24 info34 pkQ rfl (by first | rfl | omega) (by omega) | exact Yld.indexB (sz := 5) (i) hS rfl rfl Try.underlying24 info34 rfl (by first | rfl | omega) (by omega))) (by decide) ?_; clear hS; intro aa hS
    refine dA 6 rfl (by kernel_rfl) (by kernel_rfl) (by kernel_rfl) (fun _ _ _ h => h) hS hR0 (Yld.loadAgg hS rfl Try.underlying34 rfl info34 (by first | exact Rds.cons (Rd.blk pkQ (by rfl)) (Rds.cons (Rd.blk pkQ (by rfl)) (Rds.cons (Rd.blk pkQ (by rfl)) (Rds.cons (Rd.blk pkQ (by rfl)) (Rds.cons (Rd.blk pkQ (by rfl)) (Rds.nil))))) | exact Rds.rec pkQ (by intro _; rfl) (by omega) | exact Rds.flat1 pkQ (by intro _; rfl) (by omega)) (by rfl)) (by decide) ?_; clear hS; intro aa hS
    obtain ⟨y0, y0e⟩ : ∃ y : Ky, (srt K)[i] = y := ⟨_, rfl⟩
    have hy0 := (has_get hG (by omega) y0e).2
    replace hS := hS.say (t := 23) (vK y0) rfl (by rw [y0e])
    have hmx := mxTo_succ (ks := srt K) (k := k) (i := i) (by omega)
    rw [y0e] at hmx
    have hal := al_le (a := y0) (b := k)
    refine dA 7 rfl (by kernel_rfl) (by kernel_rfl) (by kernel_rfl) (fun _ _ _ h => h) hS hR0 (Yld.loadAgg hS rfl Try.underlying34 rfl info34 (by first | exact Rds.cons (Rd.blk pkQ (by rfl)) (Rds.cons (Rd.blk pkQ (by rfl)) (Rds.cons (Rd.blk pkQ (by rfl)) (Rds.cons (Rd.blk pkQ (by rfl)) (Rds.cons (Rd.blk pkQ (by rfl)) (Rds.nil))))) | exact Rds.rec pkQ (by intro _; rfl) (by omega) | exact Rds.flat1 pkQ (by intro _; rfl) (by omega)) (by rfl)) (by decide) ?_; clear hS; intro aa hS
    refine dOne (i := 8) (by kernel_rfl) ?_
    refine dop rfl (Bcall hS rfl Try.call43 (Alike_ok (a := y0) (b := k) hR hy0 hk) (by decide) ?_); clear hS; intro aa ww vv hS hp
    clear hR hR0
    obtain ⟨rfl, hR⟩ := hp
    refine dnext (hR.sub exQ) ?_; intro hR0
    refine dA 9 rfl (by kernel_rfl) (by kernel_rfl) (by kernel_rfl) (fun _ _ _ h => h) hS hR0 (Yld.assign hS rfl) (by decide) ?_; clear hS; intro aa hS
    refine wpAnyH_done (by kernel_rfl) ?_ _; clear hR0
    refine hK443 _ _ ?_
    refine wp_seq_k ?_; intro K444 hK444
    refine wp_region_lit ?_
    refine sA hS hR (Yld.move hS rfl) (by decide) ?_; clear hS; intro aa hS
    refine sA hS hR (Yld.move hS rfl) (by decide) ?_; clear hS; intro aa hS
    refine sA hS hR (Yld.gtr hS rfl rfl) (by decide) ?_; clear hS; intro aa hS
    refine wpList_nil ?_
    refine hK444 _ _ ?_
    refine hS.splitB (t := 28) rfl ?_ ?_ <;> clear hS
    · intro hg hS
      refine condT hS rfl ?_
      refine wp_region_lit ?_
      refine sA hS hR (Yld.move hS rfl) (by decide) ?_; clear hS; intro aa hS
      refine sA hS hR (Yld.assign hS rfl) (by decide) ?_; clear hS; intro aa hS
      refine wpList_nil ?_
      refine hK442 _ _ ?_
      refine wp_region_lit ?_
      refine sA hS hR (Yld.move hS rfl) (by decide) ?_; clear hS; intro aa hS
      refine sA hS hR ((by first | exact Yld.add64 hS rfl rfl (by omega) | exact Yld.add hS rfl rfl)) (by decide) ?_; clear hS; intro aa hS
      refine sA hS hR (Yld.assign hS rfl) (by decide) ?_; clear hS; intro aa hS
      refine wpList_nil ?_
      replace hS := hS.say (t := 5) (.int .i64 ((mxTo (srt K) k (i + 1) : Nat) : Int)) rfl (by rw [hmx]; exact congrArg (Value.int .i64) (by omega))
      refine ⟨i + 1, ?_, ?_, hS.le (Le.cons rfl (Le.cons rfl (Le.nilapp (Le.cons rfl (Le.cons rfl (Le.cons rfl (Le.nil _))))))), hR.sub (Ex.nilapp exQ)⟩
      · omega
      · omega
    · intro hg hS
      refine condF hS rfl ?_
      refine wp_skip ?_
      refine hK442 _ _ ?_
      refine wp_region_lit ?_
      refine sA hS hR (Yld.move hS rfl) (by decide) ?_; clear hS; intro aa hS
      refine sA hS hR ((by first | exact Yld.add64 hS rfl rfl (by omega) | exact Yld.add hS rfl rfl)) (by decide) ?_; clear hS; intro aa hS
      refine sA hS hR (Yld.assign hS rfl) (by decide) ?_; clear hS; intro aa hS
      refine wpList_nil ?_
      replace hS := hS.say (t := 5) (.int .i64 ((mxTo (srt K) k (i + 1) : Nat) : Int)) rfl (by rw [hmx]; exact congrArg (Value.int .i64) (by omega))
      refine ⟨i + 1, ?_, ?_, hS.le (Le.cons rfl (Le.cons rfl (Le.nilapp (Le.cons rfl (Le.cons rfl (Le.cons rfl (Le.nil _))))))), hR.sub (Ex.nilapp exQ)⟩
      · omega
      · omega
  · intro hg hS
    obtain rfl : i = (srt K).length := by omega
    refine condF hS rfl ?_
    refine wp_exit ?_
    refine hK437 _ _ ?_
    refine wp_seq_k ?_; intro K445 hK445
    refine wp_region_lit ?_
    refine sA hS hR (Yld.move hS rfl) (by decide) ?_; clear hS; intro aa hS
    refine sA hS hR ((by first | exact Yld.add64 hS rfl rfl (by omega) | exact Yld.add hS rfl rfl)) (by decide) ?_; clear hS; intro aa hS
    refine sA hS hR (Yld.assign hS rfl) (by decide) ?_; clear hS; intro aa hS
    refine wpList_nil ?_
    refine hK445 _ _ ?_
    refine wp_ret ?_
    repeat (first | with_reducible refine thenR ?_ | with_reducible refine blockR ?_ | with_reducible refine scopeR ?_)
    refine ret1 (fn := Try.f41) (e := .ret) (.inl rfl) Try.results41 hS hR ⟨_, (.tmp rfl), ?_⟩
    refine ⟨?_, Sep.rtrI (TR := 58) (TK := 34) (TI := 3) (b := b) (K := K) (most := most) hGK rfl rfl rfl rfl (hR.sub exQ)⟩
    rw [steps_eq hG]
set_option maxHeartbeats 4000000 in
set_option maxRecDepth 20000 in
theorem RNodes_ok {K : List (Ky × Int)} {most : Int} {b : Nat} {l : List HP} {w : World} (hR : Sep (rtrA 58 34 3 b K most :: l) w) : CallR Try.prog 42 [.pointer (some ⟨b, 0, none⟩)] w (fun v w' => v = .int .i64 ((nodesOf K : Nat) : Int) ∧ Sep (rtrA 58 34 3 b K most :: l) w') := by
  refine enter Try.func42 rfl Try.ntmps42 (Nat.le_of_ble_eq_true rfl) ?_; intro aa hS
  obtain ⟨r1, c1, r2, c2, hGK, hR⟩ := (hR.pk (r := rtrA _ _ _ b _ _) pkQ).rtrE
  have hG := hGK.good
  have hsl := hGK.slen
  have hvl := vals_len (K := K)
  have hcp1 := (hR.pk (r := sls r1 _ _ _ _ _) pkQ).slsLe.1
  have hcp2 := (hR.pk (r := sls r2 _ _ _ _ _) pkQ).slsLe.1
  have hn0 := ndk_nil
  refine wp_seq_k ?_; intro K446 hK446
  refine wp_region_lit ?_
  refine sA hS hR (Yld.assign hS rfl) (by decide) ?_; clear hS; intro aa hS
  refine wpList_nil ?_
  refine hK446 _ _ ?_
  refine wp_seq_k ?_; intro K447 hK447
  refine wp_region_lit ?_
  refine sA hS hR (Yld.assign hS rfl) (by decide) ?_; clear hS; intro aa hS
  refine wpList_nil ?_
  refine hK447 _ _ ?_
  refine wp_seq_k ?_; intro K448 hK448
  refine wp_seq_k ?_; intro K449 hK449
  refine wp_region_lit ?_
  refine sA hS hR (Yld.assign hS rfl) (by decide) ?_; clear hS; intro aa hS
  refine wpList_nil ?_
  refine hK449 _ _ ?_
  refine wp_block ?_
  refine loopI (X := Nat) [(0, _), (2, _)] (fun x => [(3, .int .i64 ((ndk ((srt K).take x) : Nat) : Int)), (4, .int .i64 (x : Int))]) (fun x => []) _ (fun x => x ≤ (srt K).length) (fun x => (srt K).length - x) 0 (Nat.zero_le _) (hS.le (Le.cons rfl (Le.cons rfl (Le.nilapp (Le.cons rfl (Le.cons rfl (Le.nil _))))))) hR ?_
  clear hS hR; rintro i aa ww hI hS hR; dsimp only [List.cons_append, List.nil_append] at hI hS hR
  have hnl := ndk_le (ks := (srt K).take i)
  rw [List.length_take] at hnl
  refine wp_seq_k ?_; intro K451 hK451
  refine wp_seq_k ?_; intro K452 hK452
  refine wp_region_lit ?_
  refine sA hS hR (Yld.move hS rfl) (by decide) ?_; clear hS; intro aa hS
  refine sA hS hR (Yld.move hS rfl) (by decide) ?_; clear hS; intro aa hS
  refine sA hS hR (Yld.nilCheck hS rfl) (by decide) ?_; clear hS; intro aa hS
  refine sA hS hR (Yld.fieldAddr hS rfl 1 Try.underlying58 rfl rfl info24 (by decide)) (by decide) ?_; clear hS; intro aa hS
  refine sA hS hR (Yld.load1 hS rfl Try.underlying24 rfl (by first | exact Rd.blk pkQ (by rfl) | exact Rd.rec pkQ (by intro _; rfl) (by omega) rfl | exact Rd.rec0 pkQ (by intro _; rfl) (by omega) rfl | exact Rd.flatJ pkQ (by intro _; rfl) (by omega) rfl | exact Rd.flat0 pkQ (by intro _; rfl) (by omega) rfl)) (by decide) ?_; clear hS; intro aa hS
  refine sA hS hR (Yld.len hS rfl Try.underlying24) (by decide) ?_; clear hS; intro aa hS
  refine sA hS hR (Yld.lss hS rfl rfl) (by decide) ?_; clear hS; intro aa hS
  refine wpList_nil ?_
  refine hK452 _ _ ?_
  refine hS.splitB (t := 11) rfl ?_ ?_ <;> clear hS
  · intro hg hS
    refine condT hS rfl ?_
    refine wp_skip ?_
    refine hK451 _ _ ?_
    refine wp_seq_k ?_; intro K453 hK453
    refine wp_block ?_
    refine wp_seq_k ?_; intro K454 hK454
    refine wp_region_lit ?_
    refine sA hS hR (Yld.move hS rfl) (by decide) ?_; clear hS; intro aa hS
    refine sA hS hR (Yld.eql hS rfl rfl) (by decide) ?_; clear hS; intro aa hS
    refine wpList_nil ?_
    refine hK454 _ _ ?_
    refine hS.splitB (t := 15) rfl ?_ ?_ <;> clear hS
    · intro hg hS
      obtain rfl : i = 0 := by omega
      have hnx := ndk_first (ks := srt K) (by omega)
      refine condT hS rfl ?_
      refine wp_region_lit ?_
      refine sA hS hR (Yld.move hS rfl) (by decide) ?_; clear hS; intro aa hS
      refine sA hS hR ((by first | exact Yld.add64 hS rfl rfl (by omega) | exact Yld.add hS rfl rfl)) (by decide) ?_; clear hS; intro aa hS
      refine sA hS hR (Yld.assign hS rfl) (by decide) ?_; clear hS; intro aa hS
      refine wpList_nil ?_
      refine hK453 _ _ ?_
      refine wp_region_lit ?_
      refine sA hS hR (Yld.move hS rfl) (by decide) ?_; clear hS; intro aa hS
      refine sA hS hR ((by first | exact Yld.add64 hS rfl rfl (by omega) | exact Yld.add hS rfl rfl)) (by decide) ?_; clear hS; intro aa hS
      refine sA hS hR (Yld.assign hS rfl) (by decide) ?_; clear hS; intro aa hS
      refine wpList_nil ?_
      replace hS := hS.say (t := 3) (.int .i64 ((ndk ((srt K).take (0 + 1)) : Nat) : Int)) rfl (by rw [show 0 + 1 = 1 from rfl, hnx, List.take_zero, hn0]; rfl)
      refine ⟨0 + 1, ?_, ?_, hS.le (Le.cons rfl (Le.cons rfl (Le.nilapp (Le.cons rfl (Le.cons rfl (Le.nil _)))))), hR.sub (Ex.nilapp exQ)⟩
      · omega
      · omega
    · intro hg hS
      obtain ⟨i0, rfl⟩ : ∃ y, i = y + 1 := ⟨i - 1, by omega⟩
      refine condF hS rfl ?_
      refine drawn (by kernel_rfl) hR Ex.refl ?_; clear hR; intro ww hR hR0
      refine dA 0 rfl (by kernel_rfl) (by kernel_rfl) (by kernel_rfl) (fun _ _ _ h => h) hS hR0 (Yld.move hS rfl) (by decide) ?_; clear hS; intro aa hS
      refine dA 1 rfl (by kernel_rfl) (by kernel_rfl) (by kernel_rfl) (fun _ _ _ h => h) hS hR0 ((by first | exact Yld.add64 hS rfl rfl (by omega) | exact Yld.add hS rfl rfl)) (by decide) ?_; clear hS; intro aa hS
      refine dA 2 rfl (by kernel_rfl) (by kernel_rfl) (by kernel_rfl) (fun _ _ _ h => h) hS hR0 (Yld.move hS rfl) (by decide) ?_; clear hS; intro aa hS
      refine dA 3 rfl (by kernel_rfl) (by kernel_rfl) (by kernel_rfl) (fun _ _ _ h => h) hS hR0 (Yld.nilCheck hS rfl) (by decide) ?_; clear hS; intro aa hS
      refine dA 4 rfl (by kernel_rfl) (by kernel_rfl) (by kernel_rfl) (fun _ _ _ h => h) hS hR0 (Yld.fieldAddr hS rfl 1 Try.underlying58 rfl rfl info24 (by decide)) (by decide) ?_; clear hS; intro aa hS
      refine dA 5 rfl (by kernel_rfl) (by kernel_rfl) (by kernel_rfl) (fun _ _ _ h => h) hS hR0 (Yld.load1 hS rfl Try.underlying24 rfl (by first | exact Rd.blk pkQ (by rfl) | exact Rd.rec pkQ (by intro _; rfl) (by omega) rfl | exact Rd.rec0 pkQ (by intro _; rfl) (by omega) rfl | exact Rd.flatJ pkQ (by intro _; rfl) (by omega) rfl | exact Rd.flat0 pkQ (by intro _; rfl) (by omega) rfl)) (by decide) ?_; clear hS; intro aa hS
      refine dA 6 rfl (by kernel_rfl) (by kernel_rfl) (by kernel_rfl) (fun _ _ _ h => h) hS hR0 (Yld.move hS rfl) (by decide) ?_; clear hS; intro aa hS
      refine dA 7 rfl (by kernel_rfl) (by kernel_rfl) (by kernel_rfl) (fun _ _ _ h => h) hS hR0 ((by first | exact Yld.sub64 hS rfl rfl (by omega) | exact Yld.sub hS rfl rfl)) (by decide) ?_; clear hS; intro aa hS
      refine dA 8 rfl (by kernel_rfl) (by kernel_rfl) (by kernel_rfl) (fun _ _ _ h => h) hS hR0 ((by first | exact Yld.indexL (sz := 5) (i0) hS rfl rfl Try.underlying24 info34 pkQ rfl (by first | rfl | omega) (by omega) | exact Yld.indexB (sz := 5) (i0) hS rfl rfl Try.underlying24 info34 rfl (by first | rfl | omega) (by omega))) (by decide) ?_; clear hS; intro aa hS
      refine dA 9 rfl (by kernel_rfl) (by kernel_rfl) (by kernel_rfl) (fun _ _ _ h => h) hS hR0 (Yld.loadAgg hS rfl Try.underlying34 rfl info34 (by first | exact Rds.cons (Rd.blk pkQ (by rfl)) (Rds.cons (Rd.blk pkQ (by rfl)) (Rds.cons (Rd.blk pkQ (by rfl)) (Rds.cons (Rd.blk pkQ (by rfl)) (Rds.cons (Rd.blk pkQ (by rfl)) (Rds.nil))))) | exact Rds.rec pkQ (by intro _; rfl) (by omega) | exact Rds.flat1 pkQ (by intro _; rfl) (by omega)) (by rfl)) (by decide) ?_; clear hS; intro aa hS
      obtain ⟨y0, y0e⟩ : ∃ y : Ky, (srt K)[i0] = y := ⟨_, rfl⟩
      have hy0 := (has_get hG (by omega) y0e).2
      replace hS := hS.say (t := 27) (vK y0) rfl (by rw [y0e])
      refine dA 10 rfl (by kernel_rfl) (by kernel_rfl) (by kernel_rfl) (fun _ _ _ h => h) hS hR0 (Yld.move hS rfl) (by decide) ?_; clear hS; intro aa hS
      refine dA 11 rfl (by kernel_rfl) (by kernel_rfl) (by kernel_rfl) (fun _ _ _ h => h) hS hR0 (Yld.nilCheck hS rfl) (by decide) ?_; clear hS; intro aa hS
      refine dA 12 rfl (by kernel_rfl) (by kernel_rfl) (by kernel_rfl) (fun _ _ _ h => h) hS hR0 (Yld.fieldAddr hS rfl 1 Try.underlying58 rfl rfl info24 (by decide)) (by decide) ?_; clear hS; intro aa hS
      refine dA 13 rfl (by kernel_rfl) (by kernel_rfl) (by kernel_rfl) (fun _ _ _ h => h) hS hR0 (Yld.load1 hS rfl Try.underlying24 rfl (by first | exact Rd.blk pkQ (by rfl) | exact Rd.rec pkQ (by intro _; rfl) (by omega) rfl | exact Rd.rec0 pkQ (by intro _; rfl) (by omega) rfl | exact Rd.flatJ pkQ (by intro _; rfl) (by omega) rfl | exact Rd.flat0 pkQ (by intro _; rfl) (by omega) rfl)) (by decide) ?_; clear hS; intro aa hS
      refine dA 14 rfl (by kernel_rfl) (by kernel_rfl) (by kernel_rfl) (fun _ _ _ h => h) hS hR0 (Yld.move hS rfl) (by decide) ?_; clear hS; intro aa hS
      refine dA 15 rfl (by kernel_rfl) (by kernel_rfl) (by kernel_rfl) (fun _ _ _ h => h) hS hR0 ((by first | exact Yld.indexL (sz := 5) (i0 + 1) hS rfl rfl Try.underlying24 info34 pkQ rfl (by first | rfl | omega) (by omega) | exact Yld.indexB (sz := 5) (i0 + 1) hS rfl rfl Try.underlying24 info34 rfl (by first | rfl | omega) (by omega))) (by decide) ?_; clear hS; intro aa hS
      refine dA 16 rfl (by kernel_rfl) (by kernel_rfl) (by kernel_rfl) (fun _ _ _ h => h) hS hR0 (Yld.loadAgg hS rfl Try.underlying34 rfl info34 (by first | exact Rds.cons (Rd.blk pkQ (by rfl)) (Rds.cons (Rd.blk pkQ (by rfl)) (Rds.cons (Rd.blk pkQ (by rfl)) (Rds.cons (Rd.blk pkQ (by rfl)) (Rds.cons (Rd.blk pkQ (by rfl)) (Rds.nil))))) | exact Rds.rec pkQ (by intro _; rfl) (by omega) | exact Rds.flat1 pkQ (by intro _; rfl) (by omega)) (by rfl)) (by decide) ?_; clear hS; intro aa hS
      obtain ⟨y1, y1e⟩ : ∃ y : Ky, (srt K)[i0 + 1] = y := ⟨_, rfl⟩
      have hy1 := (has_get hG (by omega) y1e).2
      replace hS := hS.say (t := 34) (vK y1) rfl (by rw [y1e])
      have hnx := ndk_next (srt_sorted hG) (i := i0) (by omega)
      rw [y0e, y1e] at hnx
      have hal := al_le (a := y0) (b := y1)
      refine dOne (i := 17) (by kernel_rfl) ?_
      refine dop rfl (Bcall hS rfl Try.call43 (Alike_ok (a := y0) (b := y1) hR hy0 hy1) (by decide) ?_); clear hS; intro aa ww vv hS hp
      clear hR hR0
      obtain ⟨rfl, hR⟩ := hp
      refine dnext (hR.sub exQ) ?_; intro hR0
      refine dA 18 rfl (by kernel_rfl) (by kernel_rfl) (by kernel_rfl) (fun _ _ _ h => h) hS hR0 ((by first | exact Yld.sub64 hS rfl rfl (by omega) | exact Yld.sub hS rfl rfl)) (by decide) ?_; clear hS; intro aa hS
      refine dA 19 rfl (by kernel_rfl) (by kernel_rfl) (by kernel_rfl) (fun _ _ _ h => h) hS hR0 (Yld.assign hS rfl) (by decide) ?_; clear hS; intro aa hS
      refine wpAnyH_done (by kernel_rfl) ?_ _; clear hR0
      refine hK453 _ _ ?_
      refine wp_region_lit ?_
      refine sA hS hR (Yld.move hS rfl) (by decide) ?_; clear hS; intro aa hS
      refine sA hS hR ((by first | exact Yld.add64 hS rfl rfl (by omega) | exact Yld.add hS rfl rfl)) (by decide) ?_; clear hS; intro aa hS
      refine sA hS hR (Yld.assign hS rfl) (by decide) ?_; clear hS; intro aa hS
      refine wpList_nil ?_
      replace hS := hS.say (t := 3) (.int .i64 ((ndk ((srt K).take (i0 + 1 + 1)) : Nat) : Int)) rfl (by rw [show i0 + 1 + 1 = i0 + 2 from rfl, hnx]; exact congrArg (Value.int .i64) (by omega))
      refine ⟨i0 + 1 + 1, ?_, ?_, hS.le (Le.cons rfl (Le.cons rfl (Le.nilapp (Le.cons rfl (Le.cons rfl (Le.nil _)))))), hR.sub (Ex.nilapp exQ)⟩
      · omega
      · omega
  · intro hg hS
    obtain rfl : i = (srt K).length := by omega
    refine condF hS rfl ?_
    refine wp_exit ?_
    refine hK448 _ _ ?_
    refine wp_seq_k ?_; intro K455 hK455
    refine wp_region_lit ?_
    refine sA hS hR (Yld.move hS rfl) (by decide) ?_; clear hS; intro aa hS
    refine sA hS hR (Yld.assign hS rfl) (by decide) ?_; clear hS; intro aa hS
    refine wpList_nil ?_
    refine hK455 _ _ ?_
    refine wp_ret ?_
    repeat (first | with_reducible refine thenR ?_ | with_reducible refine blockR ?_ | with_reducible refine scopeR ?_)
    refine ret1 (fn := Try.f42) (e := .ret) (.inl rfl) Try.results42 hS hR ⟨_, (.tmp rfl), ?_⟩
    refine ⟨?_, Sep.rtrI (TR := 58) (TK := 34) (TI := 3) (b := b) (K := K) (most := most) hGK rfl rfl rfl rfl (hR.sub exQ)⟩
    rw [nodes_eq hG, List.take_length]
set_option maxHeartbeats 4000000 in
set_option maxRecDepth 20000 in
theorem RNodesO_ok {K : List (Ky × Int)} {most : Int} {b : Nat} {r1 r2 : Option Addr} {c1 c2 : Nat} {l : List HP} {w : World} (hGK : GK K most) (hR : Sep (blk b [.int .i64 most, .slice r1 (srt K).length c1, .slice r2 (vals K).length c2] 58 :: sls r1 (srt K).length c1 34 5 ((srt K).flatMap eK) :: sls r2 (vals K).length c2 3 1 ((vals K).flatMap e1) :: l) w) : CallR Try.prog 42 [.pointer (some ⟨b, 0, none⟩)] w (fun v w' => v = .int .i64 ((nodesOf K : Nat) : Int) ∧ Sep (blk b [.int .i64 most, .slice r1 (srt K).length c1, .slice r2 (vals K).length c2] 58 :: sls r1 (srt K).length c1 34 5 ((srt K).flatMap eK) :: sls r2 (vals K).length c2 3 1 ((vals K).flatMap e1) :: l) w') := by
  refine enter Try.func42 rfl Try.ntmps42 (Nat.le_of_ble_eq_true rfl) ?_; intro aa hS
  have hG := hGK.good
  have hsl := hGK.slen
  have hn0 := ndk_nil
  refine wp_seq_k ?_; intro K456 hK456
  refine wp_region_lit ?_
  refine sA hS hR (Yld.assign hS rfl) (by decide) ?_; clear hS; intro aa hS
  refine wpList_nil ?_
  refine hK456 _ _ ?_
  refine wp_seq_k ?_; intro K457 hK457
  refine wp_region_lit ?_
  refine sA hS hR (Yld.assign hS rfl) (by decide) ?_; clear hS; intro aa hS
  refine wpList_nil ?_
  refine hK457 _ _ ?_
  refine wp_seq_k ?_; intro K458 hK458
  refine wp_seq_k ?_; intro K459 hK459
  refine wp_region_lit ?_
  refine sA hS hR (Yld.assign hS rfl) (by decide) ?_; clear hS; intro aa hS
  refine wpList_nil ?_
  refine hK459 _ _ ?_
  refine wp_block ?_
  refine loopI (X := Nat) [(0, _), (2, _)] (fun x => [(3, .int .i64 ((ndk ((srt K).take x) : Nat) : Int)), (4, .int .i64 (x : Int))]) (fun x => []) _ (fun x => x ≤ (srt K).length) (fun x => (srt K).length - x) 0 (Nat.zero_le _) (hS.le (Le.cons rfl (Le.cons rfl (Le.nilapp (Le.cons rfl (Le.cons rfl (Le.nil _))))))) hR ?_
  clear hS hR; rintro i aa ww hI hS hR; dsimp only [List.cons_append, List.nil_append] at hI hS hR
  have hnl := ndk_le (ks := (srt K).take i)
  rw [List.length_take] at hnl
  refine wp_seq_k ?_; intro K461 hK461
  refine wp_seq_k ?_; intro K462 hK462
  refine wp_region_lit ?_
  refine sA hS hR (Yld.move hS rfl) (by decide) ?_; clear hS; intro aa hS
  refine sA hS hR (Yld.move hS rfl) (by decide) ?_; clear hS; intro aa hS
  refine sA hS hR (Yld.nilCheck hS rfl) (by decide) ?_; clear hS; intro aa hS
  refine sA hS hR (Yld.fieldAddr hS rfl 1 Try.underlying58 rfl rfl info24 (by decide)) (by decide) ?_; clear hS; intro aa hS
  refine sA hS hR (Yld.load1 hS rfl Try.underlying24 rfl (by first | exact Rd.blk pkQ (by rfl) | exact Rd.rec pkQ (by intro _; rfl) (by omega) rfl | exact Rd.rec0 pkQ (by intro _; rfl) (by omega) rfl | exact Rd.flatJ pkQ (by intro _; rfl) (by omega) rfl | exact Rd.flat0 pkQ (by intro _; rfl) (by omega) rfl)) (by decide) ?_; clear hS; intro aa hS
  refine sA hS hR (Yld.len hS rfl Try.underlying24) (by decide) ?_; clear hS; intro aa hS
  refine sA hS hR (Yld.lss hS rfl rfl) (by decide) ?_; clear hS; intro aa hS
  refine wpList_nil ?_
  refine hK462 _ _ ?_
  refine hS.splitB (t := 11) rfl ?_ ?_ <;> clear hS
  · intro hg hS
    refine condT hS rfl ?_
    refine wp_skip ?_
    refine hK461 _ _ ?_
    refine wp_seq_k ?_; intro K463 hK463
    refine wp_block ?_
    refine wp_seq_k ?_; intro K464 hK464
    refine wp_region_lit ?_
    refine sA hS hR (Yld.move hS rfl) (by decide) ?_; clear hS; intro aa hS
    refine sA hS hR (Yld.eql hS rfl rfl) (by decide) ?_; clear hS; intro aa hS
    refine wpList_nil ?_
    refine hK464 _ _ ?_
    refine hS.splitB (t := 15) rfl ?_ ?_ <;> clear hS
    · intro hg hS
      obtain rfl : i = 0 := by omega
      have hnx := ndk_first (ks := srt K) (by omega)
      refine condT hS rfl ?_
      refine wp_region_lit ?_
      refine sA hS hR (Yld.move hS rfl) (by decide) ?_; clear hS; intro aa hS
      refine sA hS hR ((by first | exact Yld.add64 hS rfl rfl (by omega) | exact Yld.add hS rfl rfl)) (by decide) ?_; clear hS; intro aa hS
      refine sA hS hR (Yld.assign hS rfl) (by decide) ?_; clear hS; intro aa hS
      refine wpList_nil ?_
      refine hK463 _ _ ?_
      refine wp_region_lit ?_
      refine sA hS hR (Yld.move hS rfl) (by decide) ?_; clear hS; intro aa hS
      refine sA hS hR ((by first | exact Yld.add64 hS rfl rfl (by omega) | exact Yld.add hS rfl rfl)) (by decide) ?_; clear hS; intro aa hS
      refine sA hS hR (Yld.assign hS rfl) (by decide) ?_; clear hS; intro aa hS
      refine wpList_nil ?_
      replace hS := hS.say (t := 3) (.int .i64 ((ndk ((srt K).take (0 + 1)) : Nat) : Int)) rfl (by rw [show 0 + 1 = 1 from rfl, hnx, List.take_zero, hn0]; rfl)
      refine ⟨0 + 1, ?_, ?_, hS.le (Le.cons rfl (Le.cons rfl (Le.nilapp (Le.cons rfl (Le.cons rfl (Le.nil _)))))), hR.sub (Ex.nilapp exQ)⟩
      · omega
      · omega
    · intro hg hS
      obtain ⟨i0, rfl⟩ : ∃ y, i = y + 1 := ⟨i - 1, by omega⟩
      refine condF hS rfl ?_
      refine drawn (by kernel_rfl) hR Ex.refl ?_; clear hR; intro ww hR hR0
      refine dA 0 rfl (by kernel_rfl) (by kernel_rfl) (by kernel_rfl) (fun _ _ _ h => h) hS hR0 (Yld.move hS rfl) (by decide) ?_; clear hS; intro aa hS
      refine dA 1 rfl (by kernel_rfl) (by kernel_rfl) (by kernel_rfl) (fun _ _ _ h => h) hS hR0 ((by first | exact Yld.add64 hS rfl rfl (by omega) | exact Yld.add hS rfl rfl)) (by decide) ?_; clear hS; intro aa hS
      refine dA 2 rfl (by kernel_rfl) (by kernel_rfl) (by kernel_rfl) (fun _ _ _ h => h) hS hR0 (Yld.move hS rfl) (by decide) ?_; clear hS; intro aa hS
      refine dA 3 rfl (by kernel_rfl) (by kernel_rfl) (by kernel_rfl) (fun _ _ _ h => h) hS hR0 (Yld.nilCheck hS rfl) (by decide) ?_; clear hS; intro aa hS
      refine dA 4 rfl (by kernel_rfl) (by kernel_rfl) (by kernel_rfl) (fun _ _ _ h => h) hS hR0 (Yld.fieldAddr hS rfl 1 Try.underlying58 rfl rfl info24 (by decide)) (by decide) ?_; clear hS; intro aa hS
      refine dA 5 rfl (by kernel_rfl) (by kernel_rfl) (by kernel_rfl) (fun _ _ _ h => h) hS hR0 (Yld.load1 hS rfl Try.underlying24 rfl (by first | exact Rd.blk pkQ (by rfl) | exact Rd.rec pkQ (by intro _; rfl) (by omega) rfl | exact Rd.rec0 pkQ (by intro _; rfl) (by omega) rfl | exact Rd.flatJ pkQ (by intro _; rfl) (by omega) rfl | exact Rd.flat0 pkQ (by intro _; rfl) (by omega) rfl)) (by decide) ?_; clear hS; intro aa hS
      refine dA 6 rfl (by kernel_rfl) (by kernel_rfl) (by kernel_rfl) (fun _ _ _ h => h) hS hR0 (Yld.move hS rfl) (by decide) ?_; clear hS; intro aa hS
      refine dA 7 rfl (by kernel_rfl) (by kernel_rfl) (by kernel_rfl) (fun _ _ _ h => h) hS hR0 ((by first | exact Yld.sub64 hS rfl rfl (by omega) | exact Yld.sub hS rfl rfl)) (by decide) ?_; clear hS; intro aa hS
      refine dA 8 rfl (by kernel_rfl) (by kernel_rfl) (by kernel_rfl) (fun _ _ _ h => h) hS hR0 ((by first | exact Yld.indexL (sz := 5) (i0) hS rfl rfl Try.underlying24 info34 pkQ rfl (by first | rfl | omega) (by omega) | exact Yld.indexB (sz := 5) (i0) hS rfl rfl Try.underlying24 info34 rfl (by first | rfl | omega) (by omega))) (by decide) ?_; clear hS; intro aa hS
      refine dA 9 rfl (by kernel_rfl) (by kernel_rfl) (by kernel_rfl) (fun _ _ _ h => h) hS hR0 (Yld.loadAgg hS rfl Try.underlying34 rfl info34 (by first | exact Rds.cons (Rd.blk pkQ (by rfl)) (Rds.cons (Rd.blk pkQ (by rfl)) (Rds.cons (Rd.blk pkQ (by rfl)) (Rds.cons (Rd.blk pkQ (by rfl)) (Rds.cons (Rd.blk pkQ (by rfl)) (Rds.nil))))) | exact Rds.rec pkQ (by intro _; rfl) (by omega) | exact Rds.flat1 pkQ (by intro _; rfl) (by omega)) (by rfl)) (by decide) ?_; clear hS; intro aa hS
      obtain ⟨y0, y0e⟩ : ∃ y : Ky, (srt K)[i0] = y := ⟨_, rfl⟩
      have hy0 := (has_get hG (by omega) y0e).2
      replace hS := hS.say (t := 27) (vK y0) rfl (by rw [y0e])
      refine dA 10 rfl (by kernel_rfl) (by kernel_rfl) (by kernel_rfl) (fun _ _ _ h => h) hS hR0 (Yld.move hS rfl) (by decide) ?_; clear hS; intro aa hS
      refine dA 11 rfl (by kernel_rfl) (by kernel_rfl) (by kernel_rfl) (fun _ _ _ h => h) hS hR0 (Yld.nilCheck hS rfl) (by decide) ?_; clear hS; intro aa hS
      refine dA 12 rfl (by kernel_rfl) (by kernel_rfl) (by kernel_rfl) (fun _ _ _ h => h) hS hR0 (Yld.fieldAddr hS rfl 1 Try.underlying58 rfl rfl info24 (by decide)) (by decide) ?_; clear hS; intro aa hS
      refine dA 13 rfl (by kernel_rfl) (by kernel_rfl) (by kernel_rfl) (fun _ _ _ h => h) hS hR0 (Yld.load1 hS rfl Try.underlying24 rfl (by first | exact Rd.blk pkQ (by rfl) | exact Rd.rec pkQ (by intro _; rfl) (by omega) rfl | exact Rd.rec0 pkQ (by intro _; rfl) (by omega) rfl | exact Rd.flatJ pkQ (by intro _; rfl) (by omega) rfl | exact Rd.flat0 pkQ (by intro _; rfl) (by omega) rfl)) (by decide) ?_; clear hS; intro aa hS
      refine dA 14 rfl (by kernel_rfl) (by kernel_rfl) (by kernel_rfl) (fun _ _ _ h => h) hS hR0 (Yld.move hS rfl) (by decide) ?_; clear hS; intro aa hS
      refine dA 15 rfl (by kernel_rfl) (by kernel_rfl) (by kernel_rfl) (fun _ _ _ h => h) hS hR0 ((by first | exact Yld.indexL (sz := 5) (i0 + 1) hS rfl rfl Try.underlying24 info34 pkQ rfl (by first | rfl | omega) (by omega) | exact Yld.indexB (sz := 5) (i0 + 1) hS rfl rfl Try.underlying24 info34 rfl (by first | rfl | omega) (by omega))) (by decide) ?_; clear hS; intro aa hS
      refine dA 16 rfl (by kernel_rfl) (by kernel_rfl) (by kernel_rfl) (fun _ _ _ h => h) hS hR0 (Yld.loadAgg hS rfl Try.underlying34 rfl info34 (by first | exact Rds.cons (Rd.blk pkQ (by rfl)) (Rds.cons (Rd.blk pkQ (by rfl)) (Rds.cons (Rd.blk pkQ (by rfl)) (Rds.cons (Rd.blk pkQ (by rfl)) (Rds.cons (Rd.blk pkQ (by rfl)) (Rds.nil))))) | exact Rds.rec pkQ (by intro _; rfl) (by omega) | exact Rds.flat1 pkQ (by intro _; rfl) (by omega)) (by rfl)) (by decide) ?_; clear hS; intro aa hS
      obtain ⟨y1, y1e⟩ : ∃ y : Ky, (srt K)[i0 + 1] = y := ⟨_, rfl⟩
      have hy1 := (has_get hG (by omega) y1e).2
      replace hS := hS.say (t := 34) (vK y1) rfl (by rw [y1e])
      have hnx := ndk_next (srt_sorted hG) (i := i0) (by omega)
      rw [y0e, y1e] at hnx
      have hal := al_le (a := y0) (b := y1)
      refine dOne (i := 17) (by kernel_rfl) ?_
      refine dop rfl (Bcall hS rfl Try.call43 (Alike_ok (a := y0) (b := y1) hR hy0 hy1) (by decide) ?_); clear hS; intro aa ww vv hS hp
      clear hR hR0
      obtain ⟨rfl, hR⟩ := hp
      refine dnext (hR.sub exQ) ?_; intro hR0
      refine dA 18 rfl (by kernel_rfl) (by kernel_rfl) (by kernel_rfl) (fun _ _ _ h => h) hS hR0 ((by first | exact Yld.sub64 hS rfl rfl (by omega) | exact Yld.sub hS rfl rfl)) (by decide) ?_; clear hS; intro aa hS
      refine dA 19 rfl (by kernel_rfl) (by kernel_rfl) (by kernel_rfl) (fun _ _ _ h => h) hS hR0 (Yld.assign hS rfl) (by decide) ?_; clear hS; intro aa hS
      refine wpAnyH_done (by kernel_rfl) ?_ _; clear hR0
      refine hK463 _ _ ?_
      refine wp_region_lit ?_
      refine sA hS hR (Yld.move hS rfl) (by decide) ?_; clear hS; intro aa hS
      refine sA hS hR ((by first | exact Yld.add64 hS rfl rfl (by omega) | exact Yld.add hS rfl rfl)) (by decide) ?_; clear hS; intro aa hS
      refine sA hS hR (Yld.assign hS rfl) (by decide) ?_; clear hS; intro aa hS
      refine wpList_nil ?_
      replace hS := hS.say (t := 3) (.int .i64 ((ndk ((srt K).take (i0 + 1 + 1)) : Nat) : Int)) rfl (by rw [show i0 + 1 + 1 = i0 + 2 from rfl, hnx]; exact congrArg (Value.int .i64) (by omega))
      refine ⟨i0 + 1 + 1, ?_, ?_, hS.le (Le.cons rfl (Le.cons rfl (Le.nilapp (Le.cons rfl (Le.cons rfl (Le.nil _)))))), hR.sub (Ex.nilapp exQ)⟩
      · omega
      · omega
  · intro hg hS
    obtain rfl : i = (srt K).length := by omega
    refine condF hS rfl ?_
    refine wp_exit ?_
    refine hK458 _ _ ?_
    refine wp_seq_k ?_; intro K465 hK465
    refine wp_region_lit ?_
    refine sA hS hR (Yld.move hS rfl) (by decide) ?_; clear hS; intro aa hS
    refine sA hS hR (Yld.assign hS rfl) (by decide) ?_; clear hS; intro aa hS
    refine wpList_nil ?_
    refine hK465 _ _ ?_
    refine wp_ret ?_
    repeat (first | with_reducible refine thenR ?_ | with_reducible refine blockR ?_ | with_reducible refine scopeR ?_)
    refine ret1 (fn := Try.f42) (e := .ret) (.inl rfl) Try.results42 hS hR ⟨_, (.tmp rfl), ?_⟩
    refine ⟨?_, (hR.sub exQ)⟩
    rw [nodes_eq hG, List.take_length]
end Go.Proofs.Ytmcfmhiadlkglaa.Sx
