/-
  
-/
import Derived.Test.YtmcfmhiadlkglaaRxC
import Derived.Test.YtmcfmhiadlkglaaPf
namespace Go.Proofs.Ytmcfmhiadlkglaa.Sx
open Go
set_option linter.unusedVariables false
set_option linter.unusedSimpArgs false



set_option maxHeartbeats 8000000 in
set_option maxRecDepth 20000 in
theorem act15_ok {K : List (Ky × Int)} {most kd v : Int} {k : Ky} {b b2 : Nat} {l : List HP} {w : World} (hR : Sep (trieA 69 79 3 b K most :: rtrA 58 34 3 b2 K most :: l) w) (hk : WfK k) (hkd : 0 ≤ kd ∧ kd ≤ 255) : CallR Try.prog 26 [.pointer (some ⟨b, 0, none⟩), .pointer (some ⟨b2, 0, none⟩), .agg [.int .u8 kd, .int .u8 k.1, .int .u32 k.2.1, .int .u32 k.2.2.1, .int .u16 k.2.2.2.1, .int .u16 k.2.2.2.2, .int .i64 v].toArray] w (fun u w' => u = .bool true ∧ Sep (trieA 69 79 3 b (actK K kd k v most) most :: rtrA 58 34 3 b2 (actK K kd k v most) most :: l) w') := by
  refine enter Try.func26 rfl Try.ntmps26 (Nat.le_of_ble_eq_true rfl) ?_; intro aa hS
  obtain ⟨r1, c1, r2, c2, hGK, hR⟩ := (hR.pk (r := rtrA _ _ _ b2 _ _) pkQ).rtrE
  replace hR := Sep.rtrI (TR := 58) (TK := 34) (TI := 3) (b := b2) (K := K) (most := most) hGK rfl rfl rfl rfl (hR.sub exQ)
  have hG := hGK.good
  have hlen8 : K.length ≤ 8192 := by have := hGK.le; have := hGK.most; omega
  refine wp_seq_k ?_; intro K466 hK466
  refine wp_region_lit ?_
  refine sB (Bbox hS hR rfl (by rfl) (by decide) ?_); clear hS hR; intro aa ww bb5 hS hR
  refine sA hS hR (Yld.assign hS rfl) (by decide) ?_; clear hS; intro aa hS
  refine wpList_nil ?_
  refine hK466 _ _ ?_
  refine wp_seq_k ?_; intro K467 hK467
  refine wp_seq_k ?_; intro K468 hK468
  refine wp_region_lit ?_
  refine sA hS hR (Yld.fieldAddr hS rfl 0 Try.underlying60 rfl rfl info5 (by decide)) (by decide) ?_; clear hS; intro aa hS
  refine sA hS hR (Yld.load1 hS rfl Try.underlying5 rfl (by first | exact Rd.blk pkQ (by rfl) | exact Rd.rec pkQ (by intro _; rfl) (by omega) rfl | exact Rd.rec0 pkQ (by intro _; rfl) (by omega) rfl | exact Rd.flatJ pkQ (by intro _; rfl) (by omega) rfl | exact Rd.flat0 pkQ (by intro _; rfl) (by omega) rfl)) (by decide) ?_; clear hS; intro aa hS
  refine sA hS hR ((by first | exact Yld.rem64 hS rfl rfl (by omega) | exact Yld.rem hS rfl rfl (by omega))) (by decide) ?_; clear hS; intro aa hS
  refine wpList_nil ?_
  refine hK468 _ _ ?_
  refine wp_block ?_
  refine wp_seq_k ?_; intro K469 hK469
  refine wp_seq_k ?_; intro K470 hK470
  refine wp_region_lit ?_
  refine sA hS hR (Yld.eql hS rfl rfl) (by decide) ?_; clear hS; intro aa hS
  refine sA hS hR (Yld.assign hS rfl) (by decide) ?_; clear hS; intro aa hS
  refine wpList_nil ?_
  refine hK470 _ _ ?_
  refine hS.splitB (t := 21) rfl ?_ ?_ <;> clear hS
  · intro hg hS
    refine condT hS rfl ?_
    refine wp_skip ?_
    refine hK469 _ _ ?_
    refine condT hS rfl ?_
    refine wp_seq_k ?_; intro K471 hK471
    refine drawn (by kernel_rfl) hR (Ex.of_pk2 (r := trieA _ _ _ b _ _) (s := rtrA _ _ _ b2 _ _) pkQ pkQ) ?_; clear hR; intro ww hR hR0
    refine dA 0 rfl (by kernel_rfl) (by kernel_rfl) (by kernel_rfl) (fun _ _ _ h => h) hS hR0 (Yld.move hS rfl) (by decide) ?_; clear hS; intro aa hS
    refine dA 1 rfl (by kernel_rfl) (by kernel_rfl) (by kernel_rfl) (fun _ _ _ h => h) hS hR0 (Yld.fieldAddr hS rfl 1 Try.underlying60 rfl rfl info34 (by decide)) (by decide) ?_; clear hS; intro aa hS
    refine dA 2 rfl (by kernel_rfl) (by kernel_rfl) (by kernel_rfl) (fun _ _ _ h => h) hS hR0 (Yld.loadAgg hS rfl Try.underlying34 rfl info34 (by first | exact Rds.cons (Rd.blk pkQ (by rfl)) (Rds.cons (Rd.blk pkQ (by rfl)) (Rds.cons (Rd.blk pkQ (by rfl)) (Rds.cons (Rd.blk pkQ (by rfl)) (Rds.cons (Rd.blk pkQ (by rfl)) (Rds.nil))))) | exact Rds.rec pkQ (by intro _; rfl) (by omega) | exact Rds.flat1 pkQ (by intro _; rfl) (by omega)) (by rfl)) (by decide) ?_; clear hS; intro aa hS
    refine dA 3 rfl (by kernel_rfl) (by kernel_rfl) (by kernel_rfl) (fun _ _ _ h => h) hS hR0 (Yld.fieldAddr hS rfl 6 Try.underlying60 rfl rfl info3 (by decide)) (by decide) ?_; clear hS; intro aa hS
    refine dA 4 rfl (by kernel_rfl) (by kernel_rfl) (by kernel_rfl) (fun _ _ _ h => h) hS hR0 (Yld.load1 hS rfl Try.underlying3 rfl (by first | exact Rd.blk pkQ (by rfl) | exact Rd.rec pkQ (by intro _; rfl) (by omega) rfl | exact Rd.rec0 pkQ (by intro _; rfl) (by omega) rfl | exact Rd.flatJ pkQ (by intro _; rfl) (by omega) rfl | exact Rd.flat0 pkQ (by intro _; rfl) (by omega) rfl)) (by decide) ?_; clear hS; intro aa hS
    refine dA 6 rfl (by kernel_rfl) (by kernel_rfl) (by kernel_rfl) (fun _ _ _ h => h) hS hR0 (Yld.move hS rfl) (by decide) ?_; clear hS; intro aa hS
    refine dA 7 rfl (by kernel_rfl) (by kernel_rfl) (by kernel_rfl) (fun _ _ _ h => h) hS hR0 (Yld.fieldAddr hS rfl 1 Try.underlying60 rfl rfl info34 (by decide)) (by decide) ?_; clear hS; intro aa hS
    refine dA 8 rfl (by kernel_rfl) (by kernel_rfl) (by kernel_rfl) (fun _ _ _ h => h) hS hR0 (Yld.loadAgg hS rfl Try.underlying34 rfl info34 (by first | exact Rds.cons (Rd.blk pkQ (by rfl)) (Rds.cons (Rd.blk pkQ (by rfl)) (Rds.cons (Rd.blk pkQ (by rfl)) (Rds.cons (Rd.blk pkQ (by rfl)) (Rds.cons (Rd.blk pkQ (by rfl)) (Rds.nil))))) | exact Rds.rec pkQ (by intro _; rfl) (by omega) | exact Rds.flat1 pkQ (by intro _; rfl) (by omega)) (by rfl)) (by decide) ?_; clear hS; intro aa hS
    refine dA 9 rfl (by kernel_rfl) (by kernel_rfl) (by kernel_rfl) (fun _ _ _ h => h) hS hR0 (Yld.fieldAddr hS rfl 6 Try.underlying60 rfl rfl info3 (by decide)) (by decide) ?_; clear hS; intro aa hS
    refine dA 10 rfl (by kernel_rfl) (by kernel_rfl) (by kernel_rfl) (fun _ _ _ h => h) hS hR0 (Yld.load1 hS rfl Try.underlying3 rfl (by first | exact Rd.blk pkQ (by rfl) | exact Rd.rec pkQ (by intro _; rfl) (by omega) rfl | exact Rd.rec0 pkQ (by intro _; rfl) (by omega) rfl | exact Rd.flatJ pkQ (by intro _; rfl) (by omega) rfl | exact Rd.flat0 pkQ (by intro _; rfl) (by omega) rfl)) (by decide) ?_; clear hS; intro aa hS
    refine dOne (i := 5) (by kernel_rfl) ?_
    refine dop rfl (Bcall hS rfl Try.call12 (Put_ok (k := k) (vx := v) (hR.pk (r := trieA _ _ _ b _ _) pkQ) hk) (by decide) ?_); clear hS; intro aa ww vv hS hp
    clear hR hR0
    obtain ⟨rfl, hR⟩ := hp
    refine dnext (hR.sub exQ) ?_; intro hR0
    refine dOne (i := 11) (by kernel_rfl) ?_
    refine dop rfl (Bcall hS rfl Try.call38 (RPut_ok (k := k) (vx := v) (hR.pk (r := rtrA _ _ _ b2 _ _) pkQ) hk) (by decide) ?_); clear hS; intro aa ww vv hS hp
    clear hR hR0
    obtain ⟨rfl, hR⟩ := hp
    refine dnext (hR.sub exQ) ?_; intro hR0
    refine dA 12 rfl (by kernel_rfl) (by kernel_rfl) (by kernel_rfl) (fun _ _ _ h => h) hS hR0 (Yld.eql hS rfl rfl) (by decide) ?_; clear hS; intro aa hS
    replace hS := hS.sayB (t := 36) true rfl (by simp)
    refine dA 13 rfl (by kernel_rfl) (by kernel_rfl) (by kernel_rfl) (fun _ _ _ h => h) hS hR0 (Yld.assign hS rfl) (by decide) ?_; clear hS; intro aa hS
    refine wpAnyH_done (by kernel_rfl) ?_ _; clear hR0
    refine hK471 _ _ ?_
    refine wp_ret ?_
    repeat (first | with_reducible refine thenR ?_ | with_reducible refine blockR ?_ | with_reducible refine scopeR ?_)
    refine ret1 (fn := Try.f26) (e := .ret) (.inl rfl) Try.results26 hS hR ⟨_, (.tmp rfl), ?_⟩
    have hact : actK K kd k v most = putK K k v most := by unfold actK; rw [if_pos (by omega)]
    rw [hact]
    exact ⟨rfl, (hR.sub exQ)⟩
  · intro hg hS
    refine condF hS rfl ?_
    refine wp_region_lit ?_
    refine sA hS hR (Yld.eql hS rfl rfl) (by decide) ?_; clear hS; intro aa hS
    refine sA hS hR (Yld.assign hS rfl) (by decide) ?_; clear hS; intro aa hS
    refine wpList_nil ?_
    refine hK469 _ _ ?_
    refine hS.splitB (t := 21) rfl ?_ ?_ <;> clear hS
    · intro hg hS
      refine condT hS rfl ?_
      refine wp_seq_k ?_; intro K472 hK472
      refine drawn (by kernel_rfl) hR (Ex.of_pk2 (r := trieA _ _ _ b _ _) (s := rtrA _ _ _ b2 _ _) pkQ pkQ) ?_; clear hR; intro ww hR hR0
      refine dA 0 rfl (by kernel_rfl) (by kernel_rfl) (by kernel_rfl) (fun _ _ _ h => h) hS hR0 (Yld.move hS rfl) (by decide) ?_; clear hS; intro aa hS
      refine dA 1 rfl (by kernel_rfl) (by kernel_rfl) (by kernel_rfl) (fun _ _ _ h => h) hS hR0 (Yld.fieldAddr hS rfl 1 Try.underlying60 rfl rfl info34 (by decide)) (by decide) ?_; clear hS; intro aa hS
      refine dA 2 rfl (by kernel_rfl) (by kernel_rfl) (by kernel_rfl) (fun _ _ _ h => h) hS hR0 (Yld.loadAgg hS rfl Try.underlying34 rfl info34 (by first | exact Rds.cons (Rd.blk pkQ (by rfl)) (Rds.cons (Rd.blk pkQ (by rfl)) (Rds.cons (Rd.blk pkQ (by rfl)) (Rds.cons (Rd.blk pkQ (by rfl)) (Rds.cons (Rd.blk pkQ (by rfl)) (Rds.nil))))) | exact Rds.rec pkQ (by intro _; rfl) (by omega) | exact Rds.flat1 pkQ (by intro _; rfl) (by omega)) (by rfl)) (by decide) ?_; clear hS; intro aa hS
      refine dA 3 rfl (by kernel_rfl) (by kernel_rfl) (by kernel_rfl) (fun _ _ _ h => h) hS hR0 (Yld.fieldAddr hS rfl 6 Try.underlying60 rfl rfl info3 (by decide)) (by decide) ?_; clear hS; intro aa hS
      refine dA 4 rfl (by kernel_rfl) (by kernel_rfl) (by kernel_rfl) (fun _ _ _ h => h) hS hR0 (Yld.load1 hS rfl Try.underlying3 rfl (by first | exact Rd.blk pkQ (by rfl) | exact Rd.rec pkQ (by intro _; rfl) (by omega) rfl | exact Rd.rec0 pkQ (by intro _; rfl) (by omega) rfl | exact Rd.flatJ pkQ (by intro _; rfl) (by omega) rfl | exact Rd.flat0 pkQ (by intro _; rfl) (by omega) rfl)) (by decide) ?_; clear hS; intro aa hS
      refine dA 6 rfl (by kernel_rfl) (by kernel_rfl) (by kernel_rfl) (fun _ _ _ h => h) hS hR0 (Yld.move hS rfl) (by decide) ?_; clear hS; intro aa hS
      refine dA 7 rfl (by kernel_rfl) (by kernel_rfl) (by kernel_rfl) (fun _ _ _ h => h) hS hR0 (Yld.fieldAddr hS rfl 1 Try.underlying60 rfl rfl info34 (by decide)) (by decide) ?_; clear hS; intro aa hS
      refine dA 8 rfl (by kernel_rfl) (by kernel_rfl) (by kernel_rfl) (fun _ _ _ h => h) hS hR0 (Yld.loadAgg hS rfl Try.underlying34 rfl info34 (by first | exact Rds.cons (Rd.blk pkQ (by rfl)) (Rds.cons (Rd.blk pkQ (by rfl)) (Rds.cons (Rd.blk pkQ (by rfl)) (Rds.cons (Rd.blk pkQ (by rfl)) (Rds.cons (Rd.blk pkQ (by rfl)) (Rds.nil))))) | exact Rds.rec pkQ (by intro _; rfl) (by omega) | exact Rds.flat1 pkQ (by intro _; rfl) (by omega)) (by rfl)) (by decide) ?_; clear hS; intro aa hS
      refine dA 9 rfl (by kernel_rfl) (by kernel_rfl) (by kernel_rfl) (fun _ _ _ h => h) hS hR0 (Yld.fieldAddr hS rfl 6 Try.underlying60 rfl rfl info3 (by decide)) (by decide) ?_; clear hS; intro aa hS
      refine dA 10 rfl (by kernel_rfl) (by kernel_rfl) (by kernel_rfl) (fun _ _ _ h => h) hS hR0 (Yld.load1 hS rfl Try.underlying3 rfl (by first | exact Rd.blk pkQ (by rfl) | exact Rd.rec pkQ (by intro _; rfl) (by omega) rfl | exact Rd.rec0 pkQ (by intro _; rfl) (by omega) rfl | exact Rd.flatJ pkQ (by intro _; rfl) (by omega) rfl | exact Rd.flat0 pkQ (by intro _; rfl) (by omega) rfl)) (by decide) ?_; clear hS; intro aa hS
      refine dOne (i := 5) (by kernel_rfl) ?_
      refine dop rfl (Bcall hS rfl Try.call12 (Put_ok (k := k) (vx := v) (hR.pk (r := trieA _ _ _ b _ _) pkQ) hk) (by decide) ?_); clear hS; intro aa ww vv hS hp
      clear hR hR0
      obtain ⟨rfl, hR⟩ := hp
      refine dnext (hR.sub exQ) ?_; intro hR0
      refine dOne (i := 11) (by kernel_rfl) ?_
      refine dop rfl (Bcall hS rfl Try.call38 (RPut_ok (k := k) (vx := v) (hR.pk (r := rtrA _ _ _ b2 _ _) pkQ) hk) (by decide) ?_); clear hS; intro aa ww vv hS hp
      clear hR hR0
      obtain ⟨rfl, hR⟩ := hp
      refine dnext (hR.sub exQ) ?_; intro hR0
      refine dA 12 rfl (by kernel_rfl) (by kernel_rfl) (by kernel_rfl) (fun _ _ _ h => h) hS hR0 (Yld.eql hS rfl rfl) (by decide) ?_; clear hS; intro aa hS
      replace hS := hS.sayB (t := 36) true rfl (by simp)
      refine dA 13 rfl (by kernel_rfl) (by kernel_rfl) (by kernel_rfl) (fun _ _ _ h => h) hS hR0 (Yld.assign hS rfl) (by decide) ?_; clear hS; intro aa hS
      refine wpAnyH_done (by kernel_rfl) ?_ _; clear hR0
      refine hK472 _ _ ?_
      refine wp_ret ?_
      repeat (first | with_reducible refine thenR ?_ | with_reducible refine blockR ?_ | with_reducible refine scopeR ?_)
      refine ret1 (fn := Try.f26) (e := .ret) (.inl rfl) Try.results26 hS hR ⟨_, (.tmp rfl), ?_⟩
      have hact : actK K kd k v most = putK K k v most := by unfold actK; rw [if_pos (by omega)]
      rw [hact]
      exact ⟨rfl, (hR.sub exQ)⟩
    · intro hg hS
      refine condF hS rfl ?_
      refine wp_seq_k ?_; intro K473 hK473
      refine wp_region_lit ?_
      refine sA hS hR (Yld.eql hS rfl rfl) (by decide) ?_; clear hS; intro aa hS
      refine sA hS hR (Yld.assign hS rfl) (by decide) ?_; clear hS; intro aa hS
      refine wpList_nil ?_
      refine hK473 _ _ ?_
      refine hS.splitB (t := 37) rfl ?_ ?_ <;> clear hS
      · intro hg hS
        refine condT hS rfl ?_
        refine wp_seq_k ?_; intro K474 hK474
        refine wp_region_lit ?_
        refine sA hS hR (Yld.move hS rfl) (by decide) ?_; clear hS; intro aa hS
        refine sA hS hR (Yld.fieldAddr hS rfl 1 Try.underlying60 rfl rfl info34 (by decide)) (by decide) ?_; clear hS; intro aa hS
        refine sA hS hR (Yld.loadAgg hS rfl Try.underlying34 rfl info34 (by first | exact Rds.cons (Rd.blk pkQ (by rfl)) (Rds.cons (Rd.blk pkQ (by rfl)) (Rds.cons (Rd.blk pkQ (by rfl)) (Rds.cons (Rd.blk pkQ (by rfl)) (Rds.cons (Rd.blk pkQ (by rfl)) (Rds.nil))))) | exact Rds.rec pkQ (by intro _; rfl) (by omega) | exact Rds.flat1 pkQ (by intro _; rfl) (by omega)) (by rfl)) (by decide) ?_; clear hS; intro aa hS
        refine sB (Bcall hS rfl Try.call13 (Out_ok (k := k) (hR.pk (r := trieA _ _ _ b _ _) pkQ) hk) (by decide) ?_); clear hS; intro aa ww vv hS hp
        clear hR
        obtain ⟨rfl, hR⟩ := hp
        refine sA hS hR (Yld.move hS rfl) (by decide) ?_; clear hS; intro aa hS
        refine sA hS hR (Yld.extract hS rfl rfl) (by decide) ?_; clear hS; intro aa hS
        refine sA hS hR (Yld.extract hS rfl rfl) (by decide) ?_; clear hS; intro aa hS
        refine sA hS hR (Yld.assign hS rfl) (by decide) ?_; clear hS; intro aa hS
        refine sA hS hR (Yld.assign hS rfl) (by decide) ?_; clear hS; intro aa hS
        refine wpList_nil ?_
        refine hK474 _ _ ?_
        refine wp_seq_k ?_; intro K475 hK475
        refine wp_region_lit ?_
        refine sA hS hR (Yld.move hS rfl) (by decide) ?_; clear hS; intro aa hS
        refine sA hS hR (Yld.fieldAddr hS rfl 1 Try.underlying60 rfl rfl info34 (by decide)) (by decide) ?_; clear hS; intro aa hS
        refine sA hS hR (Yld.loadAgg hS rfl Try.underlying34 rfl info34 (by first | exact Rds.cons (Rd.blk pkQ (by rfl)) (Rds.cons (Rd.blk pkQ (by rfl)) (Rds.cons (Rd.blk pkQ (by rfl)) (Rds.cons (Rd.blk pkQ (by rfl)) (Rds.cons (Rd.blk pkQ (by rfl)) (Rds.nil))))) | exact Rds.rec pkQ (by intro _; rfl) (by omega) | exact Rds.flat1 pkQ (by intro _; rfl) (by omega)) (by rfl)) (by decide) ?_; clear hS; intro aa hS
        refine sB (Bcall hS rfl Try.call39 (ROut_ok (k := k) (hR.pk (r := rtrA _ _ _ b2 _ _) pkQ) hk) (by decide) ?_); clear hS; intro aa ww vv hS hp
        clear hR
        obtain ⟨rfl, hR⟩ := hp
        refine sA hS hR (Yld.move hS rfl) (by decide) ?_; clear hS; intro aa hS
        refine sA hS hR (Yld.extract hS rfl rfl) (by decide) ?_; clear hS; intro aa hS
        refine sA hS hR (Yld.extract hS rfl rfl) (by decide) ?_; clear hS; intro aa hS
        refine sA hS hR (Yld.assign hS rfl) (by decide) ?_; clear hS; intro aa hS
        refine sA hS hR (Yld.assign hS rfl) (by decide) ?_; clear hS; intro aa hS
        refine wpList_nil ?_
        refine hK475 _ _ ?_
        refine wp_seq_k ?_; intro K476 hK476
        refine wp_region_lit ?_
        refine sA hS hR (Yld.move hS rfl) (by decide) ?_; clear hS; intro aa hS
        refine sA hS hR (Yld.move hS rfl) (by decide) ?_; clear hS; intro aa hS
        refine sA hS hR (Yld.eql hS rfl rfl) (by decide) ?_; clear hS; intro aa hS
        replace hS := hS.sayB (t := 55) true rfl (by simp)
        refine sA hS hR (Yld.move hS rfl) (by decide) ?_; clear hS; intro aa hS
        refine sAg hS hR rfl rfl (Yld.move hS rfl) (by decide) ?_; clear hS; intro aa hS
        refine sAg hS hR rfl rfl (Yld.move hS rfl) (by decide) ?_; clear hS; intro aa hS
        refine sAg hS hR rfl rfl (Yld.eql hS rfl rfl) (by decide) ?_; clear hS; intro aa hS
        replace hS := hS.sayB (t := 59) true rfl (by simp)
        refine sA hS hR (Yld.pickT hS rfl rfl) (by decide) ?_; clear hS; intro aa hS
        refine sA hS hR (Yld.assign hS rfl) (by decide) ?_; clear hS; intro aa hS
        refine wpList_nil ?_
        refine hK476 _ _ ?_
        refine wp_ret ?_
        repeat (first | with_reducible refine thenR ?_ | with_reducible refine blockR ?_ | with_reducible refine scopeR ?_)
        refine ret1 (fn := Try.f26) (e := .ret) (.inl rfl) Try.results26 hS hR ⟨_, (.tmp rfl), ?_⟩
        have hact : actK K kd k v most = outK K k := by unfold actK; rw [if_neg (by omega), if_pos (by omega)]
        rw [hact]
        exact ⟨rfl, (hR.sub exQ)⟩
      · intro hg hS
        refine condF hS rfl ?_
        refine wp_seq_k ?_; intro K477 hK477
        refine wp_region_lit ?_
        refine sA hS hR (Yld.eql hS rfl rfl) (by decide) ?_; clear hS; intro aa hS
        refine sA hS hR (Yld.assign hS rfl) (by decide) ?_; clear hS; intro aa hS
        refine wpList_nil ?_
        refine hK477 _ _ ?_
        refine hS.splitB (t := 61) rfl ?_ ?_ <;> clear hS
        · intro hg hS
          refine condT hS rfl ?_
          refine wp_seq_k ?_; intro K478 hK478
          refine drawn (by kernel_rfl) hR Ex.refl ?_; clear hR; intro ww hR hR0
          refine dA 0 rfl (by kernel_rfl) (by kernel_rfl) (by kernel_rfl) (fun _ _ _ h => h) hS hR0 (Yld.move hS rfl) (by decide) ?_; clear hS; intro aa hS
          refine dA 1 rfl (by kernel_rfl) (by kernel_rfl) (by kernel_rfl) (fun _ _ _ h => h) hS hR0 (Yld.fieldAddr hS rfl 1 Try.underlying60 rfl rfl info34 (by decide)) (by decide) ?_; clear hS; intro aa hS
          refine dA 2 rfl (by kernel_rfl) (by kernel_rfl) (by kernel_rfl) (fun _ _ _ h => h) hS hR0 (Yld.loadAgg hS rfl Try.underlying34 rfl info34 (by first | exact Rds.cons (Rd.blk pkQ (by rfl)) (Rds.cons (Rd.blk pkQ (by rfl)) (Rds.cons (Rd.blk pkQ (by rfl)) (Rds.cons (Rd.blk pkQ (by rfl)) (Rds.cons (Rd.blk pkQ (by rfl)) (Rds.nil))))) | exact Rds.rec pkQ (by intro _; rfl) (by omega) | exact Rds.flat1 pkQ (by intro _; rfl) (by omega)) (by rfl)) (by decide) ?_; clear hS; intro aa hS
          refine dA 3 rfl (by kernel_rfl) (by kernel_rfl) (by kernel_rfl) (fun _ _ _ h => h) hS hR0 (Yld.fieldAddr hS rfl 6 Try.underlying60 rfl rfl info3 (by decide)) (by decide) ?_; clear hS; intro aa hS
          refine dA 4 rfl (by kernel_rfl) (by kernel_rfl) (by kernel_rfl) (fun _ _ _ h => h) hS hR0 (Yld.load1 hS rfl Try.underlying3 rfl (by first | exact Rd.blk pkQ (by rfl) | exact Rd.rec pkQ (by intro _; rfl) (by omega) rfl | exact Rd.rec0 pkQ (by intro _; rfl) (by omega) rfl | exact Rd.flatJ pkQ (by intro _; rfl) (by omega) rfl | exact Rd.flat0 pkQ (by intro _; rfl) (by omega) rfl)) (by decide) ?_; clear hS; intro aa hS
          refine dA 6 rfl (by kernel_rfl) (by kernel_rfl) (by kernel_rfl) (fun _ _ _ h => h) hS hR0 (Yld.move hS rfl) (by decide) ?_; clear hS; intro aa hS
          refine dA 7 rfl (by kernel_rfl) (by kernel_rfl) (by kernel_rfl) (fun _ _ _ h => h) hS hR0 (Yld.fieldAddr hS rfl 1 Try.underlying60 rfl rfl info34 (by decide)) (by decide) ?_; clear hS; intro aa hS
          refine dA 8 rfl (by kernel_rfl) (by kernel_rfl) (by kernel_rfl) (fun _ _ _ h => h) hS hR0 (Yld.loadAgg hS rfl Try.underlying34 rfl info34 (by first | exact Rds.cons (Rd.blk pkQ (by rfl)) (Rds.cons (Rd.blk pkQ (by rfl)) (Rds.cons (Rd.blk pkQ (by rfl)) (Rds.cons (Rd.blk pkQ (by rfl)) (Rds.cons (Rd.blk pkQ (by rfl)) (Rds.nil))))) | exact Rds.rec pkQ (by intro _; rfl) (by omega) | exact Rds.flat1 pkQ (by intro _; rfl) (by omega)) (by rfl)) (by decide) ?_; clear hS; intro aa hS
          refine dA 9 rfl (by kernel_rfl) (by kernel_rfl) (by kernel_rfl) (fun _ _ _ h => h) hS hR0 (Yld.fieldAddr hS rfl 6 Try.underlying60 rfl rfl info3 (by decide)) (by decide) ?_; clear hS; intro aa hS
          refine dA 10 rfl (by kernel_rfl) (by kernel_rfl) (by kernel_rfl) (fun _ _ _ h => h) hS hR0 (Yld.load1 hS rfl Try.underlying3 rfl (by first | exact Rd.blk pkQ (by rfl) | exact Rd.rec pkQ (by intro _; rfl) (by omega) rfl | exact Rd.rec0 pkQ (by intro _; rfl) (by omega) rfl | exact Rd.flatJ pkQ (by intro _; rfl) (by omega) rfl | exact Rd.flat0 pkQ (by intro _; rfl) (by omega) rfl)) (by decide) ?_; clear hS; intro aa hS
          refine dOne (i := 5) (by kernel_rfl) ?_
          refine dop rfl (Bcall hS rfl Try.call21 (TUnder_ok (K := K) (k := k) (n := v) (hR.pk (r := trieA _ _ _ b _ _) pkQ) hk) (by decide) ?_); clear hS; intro aa ww vv hS hp
          clear hR hR0
          obtain ⟨ra, ca, rfl, hR⟩ := hp
          have hul := und_len (k := k) (n := v) hG.wf
          have huc := und_cnt (k := k) (n := v) hG
          change (undK K k v).length ≤ _ at hul
          change (((undK K k v).length : Nat) : Int) = _ at huc
          obtain ⟨uu, hxu⟩ : ∃ y, undK K k v = y := ⟨_, rfl⟩
          rw [hxu] at hS hR hul huc
          refine dnext (hR.sub exQ) ?_; intro hR0
          refine dOne (i := 11) (by kernel_rfl) ?_
          refine dop rfl (Bcall hS rfl Try.call30 (RUnder_ok (K := K) (k := k) (n := v) (hR.pk (r := rtrA _ _ _ b2 _ _) pkQ) hk) (by decide) ?_); clear hS; intro aa ww vv hS hp
          clear hR hR0
          obtain ⟨rb, cb, rfl, hR⟩ := hp
          rw [hxu] at hS hR
          refine dnext (hR.sub exQ) ?_; intro hR0
          refine dA 12 rfl (by kernel_rfl) (by kernel_rfl) (by kernel_rfl) (fun _ _ _ h => h) hS hR0 (Yld.assign hS rfl) (by decide) ?_; clear hS; intro aa hS
          refine dA 13 rfl (by kernel_rfl) (by kernel_rfl) (by kernel_rfl) (fun _ _ _ h => h) hS hR0 (Yld.assign hS rfl) (by decide) ?_; clear hS; intro aa hS
          refine wpAnyH_done (by kernel_rfl) ?_ _; clear hR0
          refine hK478 _ _ ?_
          refine wp_seq_k ?_; intro K479 hK479
          refine wp_seq_k ?_; intro K480 hK480
          refine wp_region_lit ?_
          refine sA hS hR (Yld.move hS rfl) (by decide) ?_; clear hS; intro aa hS
          refine sA hS hR (Yld.move hS rfl) (by decide) ?_; clear hS; intro aa hS
          refine sB (Bcall hS rfl Try.call24 (sameKeys_ok (xs := uu) (ys := uu) (q1 := ra) (q2 := rb) (c1 := ca) (c2 := cb) ((hR.pk (r := sls rb _ _ _ _ _) pkQ).pk (r := sls ra _ _ _ _ _) pkQ) (by omega) (by omega)) (by decide) ?_); clear hS; intro aa ww vv hS hp
          clear hR
          obtain ⟨rfl, hR⟩ := hp
          rw [decide_eq_true rfl] at hS
          refine sA hS hR (Yld.not hS rfl) (by decide) ?_; clear hS; intro aa hS
          replace hS := hS.sayB (t := 78) false rfl (by rfl)
          refine sA hS hR (Yld.move hS rfl) (by decide) ?_; clear hS; intro aa hS
          refine sAg hS hR rfl rfl (Yld.move hS rfl) (by decide) ?_; clear hS; intro aa hS
          refine sAg hS hR rfl rfl (Yld.fieldAddr hS rfl 1 Try.underlying60 rfl rfl info34 (by decide)) (by decide) ?_; clear hS; intro aa hS
          refine sAg hS hR rfl rfl (Yld.loadAgg hS rfl Try.underlying34 rfl info34 (by first | exact Rds.cons (Rd.blk pkQ (by rfl)) (Rds.cons (Rd.blk pkQ (by rfl)) (Rds.cons (Rd.blk pkQ (by rfl)) (Rds.cons (Rd.blk pkQ (by rfl)) (Rds.cons (Rd.blk pkQ (by rfl)) (Rds.nil))))) | exact Rds.rec pkQ (by intro _; rfl) (by omega) | exact Rds.flat1 pkQ (by intro _; rfl) (by omega)) (by rfl)) (by decide) ?_; clear hS; intro aa hS
          refine sAg hS hR rfl rfl (Yld.fieldAddr hS rfl 6 Try.underlying60 rfl rfl info3 (by decide)) (by decide) ?_; clear hS; intro aa hS
          refine sAg hS hR rfl rfl (Yld.load1 hS rfl Try.underlying3 rfl (by first | exact Rd.blk pkQ (by rfl) | exact Rd.rec pkQ (by intro _; rfl) (by omega) rfl | exact Rd.rec0 pkQ (by intro _; rfl) (by omega) rfl | exact Rd.flatJ pkQ (by intro _; rfl) (by omega) rfl | exact Rd.flat0 pkQ (by intro _; rfl) (by omega) rfl)) (by decide) ?_; clear hS; intro aa hS
          refine sBg hS rfl rfl (Bcall hS rfl Try.call23 (TCount_ok (K := K) (k := k) (n := v) (hR.pk (r := trieA _ _ _ b _ _) pkQ) hk) (by decide) ?_); clear hS; intro aa ww vv hS hp
          clear hR
          obtain ⟨rfl, hR⟩ := hp
          rw [← huc] at hS
          refine sAg hS hR rfl rfl (Yld.move hS rfl) (by decide) ?_; clear hS; intro aa hS
          refine sAg hS hR rfl rfl (Yld.len hS rfl Try.underlying24) (by decide) ?_; clear hS; intro aa hS
          refine sAg hS hR rfl rfl (Yld.neq hS rfl rfl) (by decide) ?_; clear hS; intro aa hS
          replace hS := hS.sayB (t := 88) false rfl (by simp)
          refine sA hS hR (Yld.pickF hS rfl rfl) (by decide) ?_; clear hS; intro aa hS
          refine wpList_nil ?_
          refine hK480 _ _ ?_
          refine condF hS rfl ?_
          refine wp_skip ?_
          refine hK479 _ _ ?_
          refine wp_seq_k ?_; intro K481 hK481
          refine wp_region_lit ?_
          refine sA hS hR (Yld.move hS rfl) (by decide) ?_; clear hS; intro aa hS
          refine sA hS hR (Yld.len hS rfl Try.underlying24) (by decide) ?_; clear hS; intro aa hS
          refine sA hS hR (Yld.move hS rfl) (by decide) ?_; clear hS; intro aa hS
          refine wpList_nil ?_
          refine hK481 _ _ ?_
          refine wp_block ?_
          replace hR := hR.pk (r := sls ra uu.length ca 34 5 (uu.flatMap eK)) pkQ
          refine loopI (X := Nat × List Ky) [(0, _), (1, _), (5, _), (6, _), (11, _), (91, _)] (fun x => [(92, .int .i64 (x.1 : Int))]) (fun x => [sls ra uu.length ca 34 5 (x.2.flatMap eK)]) _ (fun x => x.1 ≤ uu.length ∧ x.2.length = uu.length) (fun x => uu.length - x.1) (0, uu) ⟨Nat.zero_le _, rfl⟩ (hS.le (Le.cons rfl (Le.nilapp (Le.cons rfl (Le.cons rfl (Le.cons rfl (Le.cons rfl (Le.cons rfl (Le.cons rfl (Le.nil _)))))))))) hR ?_
          clear hS hR; rintro ⟨i, ys⟩ aa ww hI hS hR; dsimp only [List.cons_append, List.nil_append] at hI hS hR
          have hyl := hI.2
          refine wp_seq_k ?_; intro K483 hK483
          refine wp_region_lit ?_
          refine sA hS hR (Yld.lss hS rfl rfl) (by decide) ?_; clear hS; intro aa hS
          refine wpList_nil ?_
          refine hK483 _ _ ?_
          refine wp_seq_k ?_; intro K484 hK484
          refine hS.splitB (t := 93) rfl ?_ ?_ <;> clear hS
          · intro hg hS
            have hyl := hI.2
            refine condT hS rfl ?_
            refine wp_skip ?_
            refine hK484 _ _ ?_
            refine wp_seq_k ?_; intro K485 hK485
            refine wp_block ?_
            refine wp_seq_k ?_; intro K486 hK486
            refine wp_region_lit ?_
            refine sA hS hR (Yld.move hS rfl) (by decide) ?_; clear hS; intro aa hS
            refine sA hS hR (Yld.assign hS rfl) (by decide) ?_; clear hS; intro aa hS
            refine wpList_nil ?_
            refine hK486 _ _ ?_
            refine wp_region_lit ?_
            refine sA hS hR (Yld.move hS rfl) (by decide) ?_; clear hS; intro aa hS
            refine sA hS hR (Yld.move hS rfl) (by decide) ?_; clear hS; intro aa hS
            refine sA hS hR ((by first | exact Yld.indexL (sz := 5) (i) hS rfl rfl Try.underlying24 info34 pkQ rfl (by first | rfl | omega) (by omega) | exact Yld.indexB (sz := 5) (i) hS rfl rfl Try.underlying24 info34 rfl (by first | rfl | omega) (by omega))) (by decide) ?_; clear hS; intro aa hS
            refine sA hS hR (Yld.fieldAddr hS rfl 1 Try.underlying34 rfl rfl info31 (by decide)) (by decide) ?_; clear hS; intro aa hS
            refine sA hS hR (Yld.load1 hS rfl Try.underlying31 rfl (by first | exact Rd.blk pkQ (by rfl) | exact Rd.rec pkQ (by intro _; rfl) (by omega) rfl | exact Rd.rec0 pkQ (by intro _; rfl) (by omega) rfl | exact Rd.flatJ pkQ (by intro _; rfl) (by omega) rfl | exact Rd.flat0 pkQ (by intro _; rfl) (by omega) rfl)) (by decide) ?_; clear hS; intro aa hS
            refine sA hS hR ((by first | exact Yld.to (Yld.add hS rfl rfl) (congrArg (Value.int .u32) (IntWalk.u32_in _ (by omega))) | exact Yld.add hS rfl rfl)) (by decide) ?_; clear hS; intro aa hS
            refine sA hS hR ((by first | exact Yld.indexL (sz := 5) (i) hS rfl rfl Try.underlying24 info34 pkQ rfl (by first | rfl | omega) (by omega) | exact Yld.indexB (sz := 5) (i) hS rfl rfl Try.underlying24 info34 rfl (by first | rfl | omega) (by omega))) (by decide) ?_; clear hS; intro aa hS
            refine sA hS hR (Yld.fieldAddr hS rfl 1 Try.underlying34 rfl rfl info31 (by decide)) (by decide) ?_; clear hS; intro aa hS
            refine sB (BstoreR (((ys[i]'(by omega)).1, IntKind.u32.wrap ((ys[i]'(by omega)).2.1 + 1), (ys[i]'(by omega)).2.2)) hS hR rfl rfl (by rfl) info31 (by rfl) pkQ (by rfl) (by intro _; rfl) (by omega) (by first | exact Nat.le_of_ble_eq_true rfl | (simp only [List.length_singleton]; omega)) (Nat.le_of_ble_eq_true rfl) (by rfl) ?_); clear hR; intro ww hR
            refine wpList_nil ?_
            refine hK485 _ _ ?_
            refine wp_region_lit ?_
            refine sA hS hR ((by first | exact Yld.add64 hS rfl rfl (by omega) | exact Yld.add hS rfl rfl)) (by decide) ?_; clear hS; intro aa hS
            refine sA hS hR (Yld.move hS rfl) (by decide) ?_; clear hS; intro aa hS
            refine wpList_nil ?_
            
            refine ⟨(i + 1, _), ?_, ?_, hS.le (Le.cons rfl (Le.nilapp (Le.cons rfl (Le.cons rfl (Le.cons rfl (Le.cons rfl (Le.cons rfl (Le.cons rfl (Le.nil _))))))))), hR.sub (Ex.take pkQ (Ex.nilapp exQ))⟩
            · dsimp only; exact ⟨by omega, by rw [List.length_set]; exact hyl⟩
            · dsimp only; omega
          · intro hg hS
            refine condF hS rfl ?_
            refine wp_exit ?_
            refine hK467 _ _ ?_
            refine wp_seq_k ?_; intro K487 hK487
            refine wp_region_lit ?_
            refine sA hS hR (Yld.move hS rfl) (by decide) ?_; clear hS; intro aa hS
            refine sA hS hR (Yld.fieldAddr hS rfl 1 Try.underlying60 rfl rfl info34 (by decide)) (by decide) ?_; clear hS; intro aa hS
            refine sA hS hR (Yld.loadAgg hS rfl Try.underlying34 rfl info34 (by first | exact Rds.cons (Rd.blk pkQ (by rfl)) (Rds.cons (Rd.blk pkQ (by rfl)) (Rds.cons (Rd.blk pkQ (by rfl)) (Rds.cons (Rd.blk pkQ (by rfl)) (Rds.cons (Rd.blk pkQ (by rfl)) (Rds.nil))))) | exact Rds.rec pkQ (by intro _; rfl) (by omega) | exact Rds.flat1 pkQ (by intro _; rfl) (by omega)) (by rfl)) (by decide) ?_; clear hS; intro aa hS
            refine sB (Bcall hS rfl Try.call16 (Get_ok (k := k) (hR.pk (r := trieA _ _ _ b _ _) pkQ) hk) (by decide) ?_); clear hS; intro aa ww vv hS hp
            clear hR
            obtain ⟨rfl, hR⟩ := hp
            refine sA hS hR (Yld.move hS rfl) (by decide) ?_; clear hS; intro aa hS
            refine sA hS hR (Yld.extract hS rfl rfl) (by decide) ?_; clear hS; intro aa hS
            refine sA hS hR (Yld.extract hS rfl rfl) (by decide) ?_; clear hS; intro aa hS
            refine sA hS hR (Yld.assign hS rfl) (by decide) ?_; clear hS; intro aa hS
            refine sA hS hR (Yld.assign hS rfl) (by decide) ?_; clear hS; intro aa hS
            refine wpList_nil ?_
            refine hK487 _ _ ?_
            refine wp_seq_k ?_; intro K488 hK488
            refine wp_region_lit ?_
            refine sA hS hR (Yld.move hS rfl) (by decide) ?_; clear hS; intro aa hS
            refine sA hS hR (Yld.fieldAddr hS rfl 1 Try.underlying60 rfl rfl info34 (by decide)) (by decide) ?_; clear hS; intro aa hS
            refine sA hS hR (Yld.loadAgg hS rfl Try.underlying34 rfl info34 (by first | exact Rds.cons (Rd.blk pkQ (by rfl)) (Rds.cons (Rd.blk pkQ (by rfl)) (Rds.cons (Rd.blk pkQ (by rfl)) (Rds.cons (Rd.blk pkQ (by rfl)) (Rds.cons (Rd.blk pkQ (by rfl)) (Rds.nil))))) | exact Rds.rec pkQ (by intro _; rfl) (by omega) | exact Rds.flat1 pkQ (by intro _; rfl) (by omega)) (by rfl)) (by decide) ?_; clear hS; intro aa hS
            refine sB (Bcall hS rfl Try.call40 (RGet_ok (k := k) (hR.pk (r := rtrA _ _ _ b2 _ _) pkQ) hk) (by decide) ?_); clear hS; intro aa ww vv hS hp
            clear hR
            obtain ⟨rfl, hR⟩ := hp
            refine sA hS hR (Yld.move hS rfl) (by decide) ?_; clear hS; intro aa hS
            refine sA hS hR (Yld.extract hS rfl rfl) (by decide) ?_; clear hS; intro aa hS
            refine sA hS hR (Yld.extract hS rfl rfl) (by decide) ?_; clear hS; intro aa hS
            refine sA hS hR (Yld.assign hS rfl) (by decide) ?_; clear hS; intro aa hS
            refine sA hS hR (Yld.assign hS rfl) (by decide) ?_; clear hS; intro aa hS
            refine wpList_nil ?_
            refine hK488 _ _ ?_
            refine wp_seq_k ?_; intro K489 hK489
            refine drawn (by kernel_rfl) hR Ex.refl ?_; clear hR; intro ww hR hR0
            refine dA 0 rfl (by kernel_rfl) (by kernel_rfl) (by kernel_rfl) (fun _ _ _ h => h) hS hR0 (Yld.move hS rfl) (by decide) ?_; clear hS; intro aa hS
            refine dA 1 rfl (by kernel_rfl) (by kernel_rfl) (by kernel_rfl) (fun _ _ _ h => h) hS hR0 (Yld.move hS rfl) (by decide) ?_; clear hS; intro aa hS
            refine dA 2 rfl (by kernel_rfl) (by kernel_rfl) (by kernel_rfl) (fun _ _ _ h => h) hS hR0 (Yld.eql hS rfl rfl) (by decide) ?_; clear hS; intro aa hS
            replace hS := hS.sayB (t := 120) true rfl (by simp)
            refine dA 3 rfl (by kernel_rfl) (by kernel_rfl) (by kernel_rfl) (fun _ _ _ h => h) hS hR0 (Yld.move hS rfl) (by decide) ?_; clear hS; intro aa hS
            refine dAg 4 rfl (by kernel_rfl) (by kernel_rfl) (by kernel_rfl) (fun _ _ _ h => h) hS rfl rfl hR0 (Yld.move hS rfl) (by decide) ?_; clear hS; intro aa hS
            refine dAg 5 rfl (by kernel_rfl) (by kernel_rfl) (by kernel_rfl) (fun _ _ _ h => h) hS rfl rfl hR0 (Yld.move hS rfl) (by decide) ?_; clear hS; intro aa hS
            refine dAg 6 rfl (by kernel_rfl) (by kernel_rfl) (by kernel_rfl) (fun _ _ _ h => h) hS rfl rfl hR0 (Yld.eqlB hS rfl rfl Try.underlying4) (by decide) ?_; clear hS; intro aa hS
            replace hS := hS.sayB (t := 124) true rfl (by simp)
            refine dA 7 rfl (by kernel_rfl) (by kernel_rfl) (by kernel_rfl) (fun _ _ _ h => h) hS hR0 (Yld.pickT hS rfl rfl) (by decide) ?_; clear hS; intro aa hS
            refine dA 8 rfl (by kernel_rfl) (by kernel_rfl) (by kernel_rfl) (fun _ _ _ h => h) hS hR0 (Yld.move hS rfl) (by decide) ?_; clear hS; intro aa hS
            refine dAg 9 rfl (by kernel_rfl) (by kernel_rfl) (by kernel_rfl) (fun _ _ _ h => h) hS rfl rfl hR0 (Yld.move hS rfl) (by decide) ?_; clear hS; intro aa hS
            refine dAg 10 rfl (by kernel_rfl) (by kernel_rfl) (by kernel_rfl) (fun _ _ _ h => h) hS rfl rfl hR0 (Yld.fieldAddr hS rfl 1 Try.underlying60 rfl rfl info34 (by decide)) (by decide) ?_; clear hS; intro aa hS
            refine dAg 11 rfl (by kernel_rfl) (by kernel_rfl) (by kernel_rfl) (fun _ _ _ h => h) hS rfl rfl hR0 (Yld.loadAgg hS rfl Try.underlying34 rfl info34 (by first | exact Rds.cons (Rd.blk pkQ (by rfl)) (Rds.cons (Rd.blk pkQ (by rfl)) (Rds.cons (Rd.blk pkQ (by rfl)) (Rds.cons (Rd.blk pkQ (by rfl)) (Rds.cons (Rd.blk pkQ (by rfl)) (Rds.nil))))) | exact Rds.rec pkQ (by intro _; rfl) (by omega) | exact Rds.flat1 pkQ (by intro _; rfl) (by omega)) (by rfl)) (by decide) ?_; clear hS; intro aa hS
            refine dAg 13 rfl (by kernel_rfl) (by kernel_rfl) (by kernel_rfl) (fun _ _ _ h => h) hS rfl rfl hR0 (Yld.move hS rfl) (by decide) ?_; clear hS; intro aa hS
            refine dAg 14 rfl (by kernel_rfl) (by kernel_rfl) (by kernel_rfl) (fun _ _ _ h => h) hS rfl rfl hR0 (Yld.fieldAddr hS rfl 1 Try.underlying60 rfl rfl info34 (by decide)) (by decide) ?_; clear hS; intro aa hS
            refine dAg 15 rfl (by kernel_rfl) (by kernel_rfl) (by kernel_rfl) (fun _ _ _ h => h) hS rfl rfl hR0 (Yld.loadAgg hS rfl Try.underlying34 rfl info34 (by first | exact Rds.cons (Rd.blk pkQ (by rfl)) (Rds.cons (Rd.blk pkQ (by rfl)) (Rds.cons (Rd.blk pkQ (by rfl)) (Rds.cons (Rd.blk pkQ (by rfl)) (Rds.cons (Rd.blk pkQ (by rfl)) (Rds.nil))))) | exact Rds.rec pkQ (by intro _; rfl) (by omega) | exact Rds.flat1 pkQ (by intro _; rfl) (by omega)) (by rfl)) (by decide) ?_; clear hS; intro aa hS
            refine dOne (i := 12) (by kernel_rfl) ?_
            refine dopg rfl hS rfl rfl (Bcall hS rfl Try.call31 (TSteps_ok (k := k) (hR.pk (r := trieA _ _ _ b _ _) pkQ) hk) (by decide) ?_); clear hS; intro aa ww vv hS hp
            clear hR hR0
            obtain ⟨rfl, hR⟩ := hp
            refine dnext (hR.sub exQ) ?_; intro hR0
            refine dOne (i := 16) (by kernel_rfl) ?_
            refine dopg rfl hS rfl rfl (Bcall hS rfl Try.call41 (RSteps_ok (k := k) (hR.pk (r := rtrA _ _ _ b2 _ _) pkQ) hk) (by decide) ?_); clear hS; intro aa ww vv hS hp
            clear hR hR0
            obtain ⟨rfl, hR⟩ := hp
            refine dnext (hR.sub exQ) ?_; intro hR0
            refine dAg 17 rfl (by kernel_rfl) (by kernel_rfl) (by kernel_rfl) (fun _ _ _ h => h) hS rfl rfl hR0 (Yld.eql hS rfl rfl) (by decide) ?_; clear hS; intro aa hS
            replace hS := hS.sayB (t := 135) true rfl (by simp)
            refine dA 18 rfl (by kernel_rfl) (by kernel_rfl) (by kernel_rfl) (fun _ _ _ h => h) hS hR0 (Yld.pickT hS rfl rfl) (by decide) ?_; clear hS; intro aa hS
            refine dA 19 rfl (by kernel_rfl) (by kernel_rfl) (by kernel_rfl) (fun _ _ _ h => h) hS hR0 (Yld.assign hS rfl) (by decide) ?_; clear hS; intro aa hS
            refine wpAnyH_done (by kernel_rfl) ?_ _; clear hR0
            refine hK489 _ _ ?_
            refine wp_ret ?_
            repeat (first | with_reducible refine thenR ?_ | with_reducible refine blockR ?_ | with_reducible refine scopeR ?_)
            refine ret1 (fn := Try.f26) (e := .ret) (.inl rfl) Try.results26 hS hR ⟨_, (.tmp rfl), ?_⟩
            have hact : actK K kd k v most = K := by unfold actK; rw [if_neg (by omega), if_neg (by omega)]
            rw [hact]
            exact ⟨rfl, (hR.sub exQ)⟩
        · intro hg hS
          refine condF hS rfl ?_
          refine wp_skip ?_
          refine hK467 _ _ ?_
          refine wp_seq_k ?_; intro K490 hK490
          refine wp_region_lit ?_
          refine sA hS hR (Yld.move hS rfl) (by decide) ?_; clear hS; intro aa hS
          refine sA hS hR (Yld.fieldAddr hS rfl 1 Try.underlying60 rfl rfl info34 (by decide)) (by decide) ?_; clear hS; intro aa hS
          refine sA hS hR (Yld.loadAgg hS rfl Try.underlying34 rfl info34 (by first | exact Rds.cons (Rd.blk pkQ (by rfl)) (Rds.cons (Rd.blk pkQ (by rfl)) (Rds.cons (Rd.blk pkQ (by rfl)) (Rds.cons (Rd.blk pkQ (by rfl)) (Rds.cons (Rd.blk pkQ (by rfl)) (Rds.nil))))) | exact Rds.rec pkQ (by intro _; rfl) (by omega) | exact Rds.flat1 pkQ (by intro _; rfl) (by omega)) (by rfl)) (by decide) ?_; clear hS; intro aa hS
          refine sB (Bcall hS rfl Try.call16 (Get_ok (k := k) (hR.pk (r := trieA _ _ _ b _ _) pkQ) hk) (by decide) ?_); clear hS; intro aa ww vv hS hp
          clear hR
          obtain ⟨rfl, hR⟩ := hp
          refine sA hS hR (Yld.move hS rfl) (by decide) ?_; clear hS; intro aa hS
          refine sA hS hR (Yld.extract hS rfl rfl) (by decide) ?_; clear hS; intro aa hS
          refine sA hS hR (Yld.extract hS rfl rfl) (by decide) ?_; clear hS; intro aa hS
          refine sA hS hR (Yld.assign hS rfl) (by decide) ?_; clear hS; intro aa hS
          refine sA hS hR (Yld.assign hS rfl) (by decide) ?_; clear hS; intro aa hS
          refine wpList_nil ?_
          refine hK490 _ _ ?_
          refine wp_seq_k ?_; intro K491 hK491
          refine wp_region_lit ?_
          refine sA hS hR (Yld.move hS rfl) (by decide) ?_; clear hS; intro aa hS
          refine sA hS hR (Yld.fieldAddr hS rfl 1 Try.underlying60 rfl rfl info34 (by decide)) (by decide) ?_; clear hS; intro aa hS
          refine sA hS hR (Yld.loadAgg hS rfl Try.underlying34 rfl info34 (by first | exact Rds.cons (Rd.blk pkQ (by rfl)) (Rds.cons (Rd.blk pkQ (by rfl)) (Rds.cons (Rd.blk pkQ (by rfl)) (Rds.cons (Rd.blk pkQ (by rfl)) (Rds.cons (Rd.blk pkQ (by rfl)) (Rds.nil))))) | exact Rds.rec pkQ (by intro _; rfl) (by omega) | exact Rds.flat1 pkQ (by intro _; rfl) (by omega)) (by rfl)) (by decide) ?_; clear hS; intro aa hS
          refine sB (Bcall hS rfl Try.call40 (RGet_ok (k := k) (hR.pk (r := rtrA _ _ _ b2 _ _) pkQ) hk) (by decide) ?_); clear hS; intro aa ww vv hS hp
          clear hR
          obtain ⟨rfl, hR⟩ := hp
          refine sA hS hR (Yld.move hS rfl) (by decide) ?_; clear hS; intro aa hS
          refine sA hS hR (Yld.extract hS rfl rfl) (by decide) ?_; clear hS; intro aa hS
          refine sA hS hR (Yld.extract hS rfl rfl) (by decide) ?_; clear hS; intro aa hS
          refine sA hS hR (Yld.assign hS rfl) (by decide) ?_; clear hS; intro aa hS
          refine sA hS hR (Yld.assign hS rfl) (by decide) ?_; clear hS; intro aa hS
          refine wpList_nil ?_
          refine hK491 _ _ ?_
          refine wp_seq_k ?_; intro K492 hK492
          refine drawn (by kernel_rfl) hR Ex.refl ?_; clear hR; intro ww hR hR0
          refine dA 0 rfl (by kernel_rfl) (by kernel_rfl) (by kernel_rfl) (fun _ _ _ h => h) hS hR0 (Yld.move hS rfl) (by decide) ?_; clear hS; intro aa hS
          refine dA 1 rfl (by kernel_rfl) (by kernel_rfl) (by kernel_rfl) (fun _ _ _ h => h) hS hR0 (Yld.move hS rfl) (by decide) ?_; clear hS; intro aa hS
          refine dA 2 rfl (by kernel_rfl) (by kernel_rfl) (by kernel_rfl) (fun _ _ _ h => h) hS hR0 (Yld.eql hS rfl rfl) (by decide) ?_; clear hS; intro aa hS
          replace hS := hS.sayB (t := 120) true rfl (by simp)
          refine dA 3 rfl (by kernel_rfl) (by kernel_rfl) (by kernel_rfl) (fun _ _ _ h => h) hS hR0 (Yld.move hS rfl) (by decide) ?_; clear hS; intro aa hS
          refine dAg 4 rfl (by kernel_rfl) (by kernel_rfl) (by kernel_rfl) (fun _ _ _ h => h) hS rfl rfl hR0 (Yld.move hS rfl) (by decide) ?_; clear hS; intro aa hS
          refine dAg 5 rfl (by kernel_rfl) (by kernel_rfl) (by kernel_rfl) (fun _ _ _ h => h) hS rfl rfl hR0 (Yld.move hS rfl) (by decide) ?_; clear hS; intro aa hS
          refine dAg 6 rfl (by kernel_rfl) (by kernel_rfl) (by kernel_rfl) (fun _ _ _ h => h) hS rfl rfl hR0 (Yld.eqlB hS rfl rfl Try.underlying4) (by decide) ?_; clear hS; intro aa hS
          replace hS := hS.sayB (t := 124) true rfl (by simp)
          refine dA 7 rfl (by kernel_rfl) (by kernel_rfl) (by kernel_rfl) (fun _ _ _ h => h) hS hR0 (Yld.pickT hS rfl rfl) (by decide) ?_; clear hS; intro aa hS
          refine dA 8 rfl (by kernel_rfl) (by kernel_rfl) (by kernel_rfl) (fun _ _ _ h => h) hS hR0 (Yld.move hS rfl) (by decide) ?_; clear hS; intro aa hS
          refine dAg 9 rfl (by kernel_rfl) (by kernel_rfl) (by kernel_rfl) (fun _ _ _ h => h) hS rfl rfl hR0 (Yld.move hS rfl) (by decide) ?_; clear hS; intro aa hS
          refine dAg 10 rfl (by kernel_rfl) (by kernel_rfl) (by kernel_rfl) (fun _ _ _ h => h) hS rfl rfl hR0 (Yld.fieldAddr hS rfl 1 Try.underlying60 rfl rfl info34 (by decide)) (by decide) ?_; clear hS; intro aa hS
          refine dAg 11 rfl (by kernel_rfl) (by kernel_rfl) (by kernel_rfl) (fun _ _ _ h => h) hS rfl rfl hR0 (Yld.loadAgg hS rfl Try.underlying34 rfl info34 (by first | exact Rds.cons (Rd.blk pkQ (by rfl)) (Rds.cons (Rd.blk pkQ (by rfl)) (Rds.cons (Rd.blk pkQ (by rfl)) (Rds.cons (Rd.blk pkQ (by rfl)) (Rds.cons (Rd.blk pkQ (by rfl)) (Rds.nil))))) | exact Rds.rec pkQ (by intro _; rfl) (by omega) | exact Rds.flat1 pkQ (by intro _; rfl) (by omega)) (by rfl)) (by decide) ?_; clear hS; intro aa hS
          refine dAg 13 rfl (by kernel_rfl) (by kernel_rfl) (by kernel_rfl) (fun _ _ _ h => h) hS rfl rfl hR0 (Yld.move hS rfl) (by decide) ?_; clear hS; intro aa hS
          refine dAg 14 rfl (by kernel_rfl) (by kernel_rfl) (by kernel_rfl) (fun _ _ _ h => h) hS rfl rfl hR0 (Yld.fieldAddr hS rfl 1 Try.underlying60 rfl rfl info34 (by decide)) (by decide) ?_; clear hS; intro aa hS
          refine dAg 15 rfl (by kernel_rfl) (by kernel_rfl) (by kernel_rfl) (fun _ _ _ h => h) hS rfl rfl hR0 (Yld.loadAgg hS rfl Try.underlying34 rfl info34 (by first | exact Rds.cons (Rd.blk pkQ (by rfl)) (Rds.cons (Rd.blk pkQ (by rfl)) (Rds.cons (Rd.blk pkQ (by rfl)) (Rds.cons (Rd.blk pkQ (by rfl)) (Rds.cons (Rd.blk pkQ (by rfl)) (Rds.nil))))) | exact Rds.rec pkQ (by intro _; rfl) (by omega) | exact Rds.flat1 pkQ (by intro _; rfl) (by omega)) (by rfl)) (by decide) ?_; clear hS; intro aa hS
          refine dOne (i := 12) (by kernel_rfl) ?_
          refine dopg rfl hS rfl rfl (Bcall hS rfl Try.call31 (TSteps_ok (k := k) (hR.pk (r := trieA _ _ _ b _ _) pkQ) hk) (by decide) ?_); clear hS; intro aa ww vv hS hp
          clear hR hR0
          obtain ⟨rfl, hR⟩ := hp
          refine dnext (hR.sub exQ) ?_; intro hR0
          refine dOne (i := 16) (by kernel_rfl) ?_
          refine dopg rfl hS rfl rfl (Bcall hS rfl Try.call41 (RSteps_ok (k := k) (hR.pk (r := rtrA _ _ _ b2 _ _) pkQ) hk) (by decide) ?_); clear hS; intro aa ww vv hS hp
          clear hR hR0
          obtain ⟨rfl, hR⟩ := hp
          refine dnext (hR.sub exQ) ?_; intro hR0
          refine dAg 17 rfl (by kernel_rfl) (by kernel_rfl) (by kernel_rfl) (fun _ _ _ h => h) hS rfl rfl hR0 (Yld.eql hS rfl rfl) (by decide) ?_; clear hS; intro aa hS
          replace hS := hS.sayB (t := 135) true rfl (by simp)
          refine dA 18 rfl (by kernel_rfl) (by kernel_rfl) (by kernel_rfl) (fun _ _ _ h => h) hS hR0 (Yld.pickT hS rfl rfl) (by decide) ?_; clear hS; intro aa hS
          refine dA 19 rfl (by kernel_rfl) (by kernel_rfl) (by kernel_rfl) (fun _ _ _ h => h) hS hR0 (Yld.assign hS rfl) (by decide) ?_; clear hS; intro aa hS
          refine wpAnyH_done (by kernel_rfl) ?_ _; clear hR0
          refine hK492 _ _ ?_
          refine wp_ret ?_
          repeat (first | with_reducible refine thenR ?_ | with_reducible refine blockR ?_ | with_reducible refine scopeR ?_)
          refine ret1 (fn := Try.f26) (e := .ret) (.inl rfl) Try.results26 hS hR ⟨_, (.tmp rfl), ?_⟩
          have hact : actK K kd k v most = K := by unfold actK; rw [if_neg (by omega), if_neg (by omega)]
          rw [hact]
          exact ⟨rfl, (hR.sub exQ)⟩
set_option maxHeartbeats 4000000 in
set_option maxRecDepth 20000 in
theorem same15_ok {K : List (Ky × Int)} {most : Int} {b b2 : Nat} {l : List HP} {w : World} (hR : Sep (trieA 69 79 3 b K most :: rtrA 58 34 3 b2 K most :: l) w) : CallR Try.prog 27 [.pointer (some ⟨b, 0, none⟩), .pointer (some ⟨b2, 0, none⟩)] w (fun u w' => u = .bool true ∧ Sep (trieA 69 79 3 b K most :: rtrA 58 34 3 b2 K most :: l) w') := by
  refine enter Try.func27 rfl Try.ntmps27 (Nat.le_of_ble_eq_true rfl) ?_; intro aa hS
  obtain ⟨r1, c1, r2, c2, hGK, hR⟩ := (hR.pk (r := rtrA _ _ _ b2 _ _) pkQ).rtrE
  have hG := hGK.good
  have hsl := hGK.slen
  have hvl := vals_len (K := K)
  refine wp_seq_k ?_; intro K493 hK493
  refine wp_region_lit ?_
  refine sA hS hR (Yld.assign hS rfl) (by decide) ?_; clear hS; intro aa hS
  refine wpList_nil ?_
  refine hK493 _ _ ?_
  refine wp_seq_k ?_; intro K494 hK494
  refine drawn (by kernel_rfl) hR Ex.refl ?_; clear hR; intro ww hR hR0
  refine dA 0 rfl (by kernel_rfl) (by kernel_rfl) (by kernel_rfl) (fun _ _ _ h => h) hS hR0 (Yld.move hS rfl) (by decide) ?_; clear hS; intro aa hS
  refine dA 2 rfl (by kernel_rfl) (by kernel_rfl) (by kernel_rfl) (fun _ _ _ h => h) hS hR0 (Yld.move hS rfl) (by decide) ?_; clear hS; intro aa hS
  refine dA 3 rfl (by kernel_rfl) (by kernel_rfl) (by kernel_rfl) (fun _ _ _ h => h) hS hR0 (Yld.nilCheck hS rfl) (by decide) ?_; clear hS; intro aa hS
  refine dA 4 rfl (by kernel_rfl) (by kernel_rfl) (by kernel_rfl) (fun _ _ _ h => h) hS hR0 (Yld.fieldAddr hS rfl 1 Try.underlying58 rfl rfl info24 (by decide)) (by decide) ?_; clear hS; intro aa hS
  refine dA 5 rfl (by kernel_rfl) (by kernel_rfl) (by kernel_rfl) (fun _ _ _ h => h) hS hR0 (Yld.load1 hS rfl Try.underlying24 rfl (by first | exact Rd.blk pkQ (by rfl) | exact Rd.rec pkQ (by intro _; rfl) (by omega) rfl | exact Rd.rec0 pkQ (by intro _; rfl) (by omega) rfl | exact Rd.flatJ pkQ (by intro _; rfl) (by omega) rfl | exact Rd.flat0 pkQ (by intro _; rfl) (by omega) rfl)) (by decide) ?_; clear hS; intro aa hS
  refine dOne (i := 1) (by kernel_rfl) ?_
  refine dop rfl (Bcall hS rfl Try.call18 (TKeys_ok (K := K) (hR.pk (r := trieA _ _ _ b _ _) pkQ)) (by decide) ?_); clear hS; intro aa ww vv hS hp
  clear hR hR0
  obtain ⟨ra, ca, rfl, hR⟩ := hp
  rw [show undK K (0, 0, 0, 0, 0) 0 = srt K from rfl] at hS hR
  refine dnext (hR.sub exQ) ?_; intro hR0
  refine dOne (i := 6) (by kernel_rfl) ?_
  refine dop rfl (Bcall hS rfl Try.call24 (sameKeys_ok (xs := srt K) (ys := srt K) (q1 := ra) (q2 := r1) (c1 := ca) (c2 := c1) ((hR.pk (r := sls r1 _ _ _ _ _) pkQ).pk (r := sls ra _ _ _ _ _) pkQ) (by omega) (by omega)) (by decide) ?_); clear hS; intro aa ww vv hS hp
  clear hR hR0
  obtain ⟨rfl, hR⟩ := hp
  rw [decide_eq_true rfl] at hS
  refine dnext (hR.sub exQ) ?_; intro hR0
  refine dA 7 rfl (by kernel_rfl) (by kernel_rfl) (by kernel_rfl) (fun _ _ _ h => h) hS hR0 (Yld.move hS rfl) (by decide) ?_; clear hS; intro aa hS
  refine dAg 8 rfl (by kernel_rfl) (by kernel_rfl) (by kernel_rfl) (fun _ _ _ h => h) hS rfl rfl hR0 (Yld.move hS rfl) (by decide) ?_; clear hS; intro aa hS
  refine dAg 10 rfl (by kernel_rfl) (by kernel_rfl) (by kernel_rfl) (fun _ _ _ h => h) hS rfl rfl hR0 (Yld.move hS rfl) (by decide) ?_; clear hS; intro aa hS
  refine dAg 11 rfl (by kernel_rfl) (by kernel_rfl) (by kernel_rfl) (fun _ _ _ h => h) hS rfl rfl hR0 (Yld.nilCheck hS rfl) (by decide) ?_; clear hS; intro aa hS
  refine dAg 12 rfl (by kernel_rfl) (by kernel_rfl) (by kernel_rfl) (fun _ _ _ h => h) hS rfl rfl hR0 (Yld.fieldAddr hS rfl 1 Try.underlying58 rfl rfl info24 (by decide)) (by decide) ?_; clear hS; intro aa hS
  refine dAg 13 rfl (by kernel_rfl) (by kernel_rfl) (by kernel_rfl) (fun _ _ _ h => h) hS rfl rfl hR0 (Yld.load1 hS rfl Try.underlying24 rfl (by first | exact Rd.blk pkQ (by rfl) | exact Rd.rec pkQ (by intro _; rfl) (by omega) rfl | exact Rd.rec0 pkQ (by intro _; rfl) (by omega) rfl | exact Rd.flatJ pkQ (by intro _; rfl) (by omega) rfl | exact Rd.flat0 pkQ (by intro _; rfl) (by omega) rfl)) (by decide) ?_; clear hS; intro aa hS
  refine dAg 14 rfl (by kernel_rfl) (by kernel_rfl) (by kernel_rfl) (fun _ _ _ h => h) hS rfl rfl hR0 (Yld.len hS rfl Try.underlying24) (by decide) ?_; clear hS; intro aa hS
  refine dOne (i := 9) (by kernel_rfl) ?_
  refine dopg rfl hS rfl rfl (Bcall hS rfl Try.call14 (TLen_ok (hR.pk (r := trieA _ _ _ b _ _) pkQ)) (by decide) ?_); clear hS; intro aa ww vv hS hp
  clear hR hR0
  obtain ⟨rfl, hR⟩ := hp
  refine dnext (hR.sub exQ) ?_; intro hR0
  refine dAg 15 rfl (by kernel_rfl) (by kernel_rfl) (by kernel_rfl) (fun _ _ _ h => h) hS rfl rfl hR0 (Yld.eql hS rfl rfl) (by decide) ?_; clear hS; intro aa hS
  replace hS := hS.sayB (t := 20) true rfl (by exact decide_eq_true (by rw [srt_len hG]))
  refine dA 16 rfl (by kernel_rfl) (by kernel_rfl) (by kernel_rfl) (fun _ _ _ h => h) hS hR0 (Yld.pickT hS rfl rfl) (by decide) ?_; clear hS; intro aa hS
  refine dA 17 rfl (by kernel_rfl) (by kernel_rfl) (by kernel_rfl) (fun _ _ _ h => h) hS hR0 (Yld.move hS rfl) (by decide) ?_; clear hS; intro aa hS
  refine dAg 18 rfl (by kernel_rfl) (by kernel_rfl) (by kernel_rfl) (fun _ _ _ h => h) hS rfl rfl hR0 (Yld.move hS rfl) (by decide) ?_; clear hS; intro aa hS
  refine dAg 20 rfl (by kernel_rfl) (by kernel_rfl) (by kernel_rfl) (fun _ _ _ h => h) hS rfl rfl hR0 (Yld.move hS rfl) (by decide) ?_; clear hS; intro aa hS
  refine dOne (i := 19) (by kernel_rfl) ?_
  refine dopg rfl hS rfl rfl (Bcall hS rfl Try.call19 (Nodes_okA (hR.pk (r := trieA _ _ _ b _ _) pkQ)) (by decide) ?_); clear hS; intro aa ww vv hS hp
  clear hR hR0
  obtain ⟨rfl, hR⟩ := hp
  refine dnext (hR.sub exQ) ?_; intro hR0
  refine dOne (i := 21) (by kernel_rfl) ?_
  refine dopg rfl hS rfl rfl (Bcall hS rfl Try.call42 (RNodesO_ok (b := b2) hGK (((hR.pk (r := sls r2 _ _ _ _ _) pkQ).pk (r := sls r1 _ _ _ _ _) pkQ).pk (r := blk b2 _ _) pkQ)) (by decide) ?_); clear hS; intro aa ww vv hS hp
  clear hR hR0
  obtain ⟨rfl, hR⟩ := hp
  refine dnext (hR.sub exQ) ?_; intro hR0
  refine dAg 22 rfl (by kernel_rfl) (by kernel_rfl) (by kernel_rfl) (fun _ _ _ h => h) hS rfl rfl hR0 (Yld.eql hS rfl rfl) (by decide) ?_; clear hS; intro aa hS
  replace hS := hS.sayB (t := 27) true rfl (by simp)
  refine dA 23 rfl (by kernel_rfl) (by kernel_rfl) (by kernel_rfl) (fun _ _ _ h => h) hS hR0 (Yld.pickT hS rfl rfl) (by decide) ?_; clear hS; intro aa hS
  refine dA 24 rfl (by kernel_rfl) (by kernel_rfl) (by kernel_rfl) (fun _ _ _ h => h) hS hR0 (Yld.assign hS rfl) (by decide) ?_; clear hS; intro aa hS
  refine wpAnyH_done (by kernel_rfl) ?_ _; clear hR0
  refine hK494 _ _ ?_
  refine wp_ret ?_
  repeat (first | with_reducible refine thenR ?_ | with_reducible refine blockR ?_ | with_reducible refine scopeR ?_)
  refine ret1 (fn := Try.f27) (e := .ret) (.inl rfl) Try.results27 hS hR ⟨_, (.tmp rfl), ?_⟩
  refine ⟨rfl, ?_⟩
  have h9 : Sep (rtrA 58 34 3 b2 K most :: trieA 69 79 3 b K most :: l) _ := Sep.rtrI (TR := 58) (TK := 34) (TI := 3) (b := b2) (K := K) (most := most) hGK rfl rfl rfl rfl (hR.sub exQ)
  exact h9.swap
set_option maxRecDepth 20000 in
theorem RRight_ok {n : Int} {l : List HP} {w : World} (hR : Sep l w) : CallR Try.prog 25 [.int .i64 n] w (fun v w' => v = .bool (decide (1 ≤ n ∧ n ≤ 8192)) ∧ Sep l w') := by
  refine enter Try.func25 rfl Try.ntmps25 (Nat.le_of_ble_eq_true rfl) ?_; intro aa hS
  refine wp_seq_k ?_; intro K495 hK495
  refine wp_region_lit ?_
  refine sA hS hR (Yld.assign hS rfl) (by decide) ?_; clear hS; intro aa hS
  refine wpList_nil ?_
  refine hK495 _ _ ?_
  refine wp_seq_k ?_; intro K496 hK496
  refine wp_region_lit ?_
  refine sA hS hR (Yld.move hS rfl) (by decide) ?_; clear hS; intro aa hS
  refine sA hS hR (Yld.geq hS rfl rfl) (by decide) ?_; clear hS; intro aa hS
  refine sA hS hR (Yld.move hS rfl) (by decide) ?_; clear hS; intro aa hS
  refine hS.splitB (t := 5) rfl ?_ ?_ <;> clear hS
  · intro hg hS
    refine sAg hS hR rfl rfl (Yld.move hS rfl) (by decide) ?_; clear hS; intro aa hS
    refine sAg hS hR rfl rfl (Yld.leq hS rfl rfl) (by decide) ?_; clear hS; intro aa hS
    refine sA hS hR (Yld.pickT hS rfl rfl) (by decide) ?_; clear hS; intro aa hS
    refine sA hS hR (Yld.assign hS rfl) (by decide) ?_; clear hS; intro aa hS
    refine wpList_nil ?_
    refine hK496 _ _ ?_
    refine wp_ret ?_
    repeat (first | with_reducible refine thenR ?_ | with_reducible refine blockR ?_ | with_reducible refine scopeR ?_)
    refine ret1 (fn := Try.f25) (e := .ret) (.inl rfl) Try.results25 hS hR ⟨_, (.tmp rfl), ?_⟩
    refine ⟨?_, (hR.sub exQ)⟩
    exact dec_iff (by omega)
  · intro hg hS
    refine sSkip hS rfl rfl rfl (by decide) ?_; clear hS; intro aa hS
    refine sSkip hS rfl rfl rfl (by decide) ?_; clear hS; intro aa hS
    refine sA hS hR (Yld.pickF hS rfl rfl) (by decide) ?_; clear hS; intro aa hS
    refine sA hS hR (Yld.assign hS rfl) (by decide) ?_; clear hS; intro aa hS
    refine wpList_nil ?_
    refine hK496 _ _ ?_
    refine wp_ret ?_
    repeat (first | with_reducible refine thenR ?_ | with_reducible refine blockR ?_ | with_reducible refine scopeR ?_)
    refine ret1 (fn := Try.f25) (e := .ret) (.inl rfl) Try.results25 hS hR ⟨_, (.tmp rfl), ?_⟩
    refine ⟨?_, (hR.sub exQ)⟩
    exact dec_no (by omega)
end Go.Proofs.Ytmcfmhiadlkglaa.Sx
