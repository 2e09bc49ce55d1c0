/-
  
-/
import Derived.Test.YtmcfmhiadlkglaaLxW
namespace Go.Proofs.Ytmcfmhiadlkglaa.Sx
open Go
set_option linter.unusedVariables false
set_option linter.unusedSimpArgs false



set_option maxHeartbeats 2000000 in
set_option maxRecDepth 20000 in
theorem TrieUnder_ok {W : World} {q : Option Addr} {n c : Nat} {xs : List (List Int)} {t : Int} {k : Ky} (A1 : ArgS W [.u32] q n c xs) {l : List HP} {w : World} (hR : Sep (old W :: l) w) (hk : WfK k) (ht : 0 ≤ t ∧ t ≤ 255) : CallR Try.prog 6 [.slice q n c, vK k, .int .u8 t] w (fun v w' => v = .bool true ∧ Sep (old W :: l) w') := by
  refine enter Try.func6 rfl Try.ntmps6 (Nat.le_of_ble_eq_true rfl) ?_; intro aa hS
  have hcap := A1.cap
  obtain ⟨tn, rfl⟩ : ∃ y : Nat, t = (y : Int) := ⟨t.toNat, by omega⟩
  refine wp_seq_k ?_; intro K442 hK442
  refine wp_region_lit ?_
  refine sB (Bbox hS hR rfl (by rfl) (by decide) ?_); clear hS hR; intro aa ww bb4 hS hR
  refine sA hS hR (Yld.assign hS rfl) (by decide) ?_; clear hS; intro aa hS
  refine wpList_nil ?_
  refine hK442 _ _ ?_
  refine wp_seq_k ?_; intro K443 hK443
  refine wp_region_lit ?_
  refine sA hS hR (Yld.move hS rfl) (by decide) ?_; clear hS; intro aa hS
  refine sA hS hR (Yld.move hS rfl) (by decide) ?_; clear hS; intro aa hS
  refine sA hS hR (Yld.len hS rfl Try.underlying22) (by decide) ?_; clear hS; intro aa hS
  refine sA hS hR (Yld.min hS rfl rfl) (by decide) ?_; clear hS; intro aa hS
  refine sA hS hR (Yld.sliceHi hS rfl rfl Try.underlying22 info31 (by omega) (by omega)) (by decide) ?_; clear hS; intro aa hS
  obtain ⟨mm, hmm0, hmm1⟩ : ∃ y : Nat, (Min.min (n : Int) 40).toNat = y ∧ y ≤ n ∧ y ≤ 40 := ⟨_, rfl, by omega, by omega⟩
  replace hS := hS.say (t := 27) (.slice q mm c) rfl (by rw [hmm0])
  refine sB (Bcall hS rfl Try.call10 (Named_ok A1 (hR.pk (r := old W) pkQ) (m := mm) (by omega) (by omega)) (by decide) ?_); clear hS; intro aa ww vv hS hp
  clear hR
  obtain ⟨ks, rk, rkc, rfl, hkl, hkw, hR⟩ := hp
  refine sA hS hR (Yld.assign hS rfl) (by decide) ?_; clear hS; intro aa hS
  refine wpList_nil ?_
  refine hK443 _ _ ?_
  refine wp_seq_k ?_; intro K444 hK444
  refine wp_region_lit ?_
  refine sB (Bcall hS rfl Try.call11 (TNew_ok hR (by omega)) (by decide) ?_); clear hS; intro aa ww vv hS hp
  clear hR
  obtain ⟨b, rfl, hR⟩ := hp
  refine sA hS hR (Yld.move hS rfl) (by decide) ?_; clear hS; intro aa hS
  refine sA hS hR (Yld.extract hS rfl rfl) (by decide) ?_; clear hS; intro aa hS
  refine sA hS hR (Yld.extract hS rfl rfl) (by decide) ?_; clear hS; intro aa hS
  refine sA hS hR (Yld.assign hS rfl) (by decide) ?_; clear hS; intro aa hS
  refine sA hS hR (Yld.assign hS rfl) (by decide) ?_; clear hS; intro aa hS
  refine wpList_nil ?_
  refine hK444 _ _ ?_
  refine wp_seq_k ?_; intro K445 hK445
  refine wp_seq_k ?_; intro K446 hK446
  refine wp_region_lit ?_
  refine sA hS hR (Yld.move hS rfl) (by decide) ?_; clear hS; intro aa hS
  refine sA hS hR (Yld.neq hS rfl rfl) (by decide) ?_; clear hS; intro aa hS
  replace hS := hS.sayB (t := 34) false rfl (by simp)
  refine sA hS hR (Yld.move hS rfl) (by decide) ?_; clear hS; intro aa hS
  refine sAg hS hR rfl rfl (Yld.move hS rfl) (by decide) ?_; clear hS; intro aa hS
  refine sAg hS hR rfl rfl (Yld.eqlNil hS rfl rfl Try.underlying26) (by decide) ?_; clear hS; intro aa hS
  replace hS := hS.sayB (t := 37) false rfl (by rfl)
  refine sA hS hR (Yld.pickF hS rfl rfl) (by decide) ?_; clear hS; intro aa hS
  refine wpList_nil ?_
  refine hK446 _ _ ?_
  refine condF hS rfl ?_
  refine wp_skip ?_
  refine hK445 _ _ ?_
  refine wp_seq_k ?_; intro K447 hK447
  refine wp_seq_k ?_; intro K448 hK448
  refine wp_region_lit ?_
  refine sA hS hR (Yld.move hS rfl) (by decide) ?_; clear hS; intro aa hS
  refine sA hS hR (Yld.len hS rfl Try.underlying24) (by decide) ?_; clear hS; intro aa hS
  refine sA hS hR (Yld.move hS rfl) (by decide) ?_; clear hS; intro aa hS
  refine wpList_nil ?_
  refine hK448 _ _ ?_
  refine wp_block ?_
  replace hR := hR.pk (r := trieA 69 79 3 b [] 40) pkQ
  refine loopI (X := Nat × List (Ky × Int)) [(2, _), (4, _), (6, _), (7, _), (8, _), (39, _), (40, _)] (fun x => [(41, .int .i64 (x.1 : Int))]) (fun x => [trieA 69 79 3 b x.2 40]) _ (fun x => x.1 ≤ ks.length ∧ KI x.2 x.1) (fun x => ks.length - x.1) (0, []) ⟨Nat.zero_le _, KI.nil⟩ (hS.le (Le.cons rfl (Le.nilapp (Le.cons rfl (Le.cons rfl (Le.cons rfl (Le.cons rfl (Le.cons rfl (Le.cons rfl (Le.cons rfl (Le.nil _))))))))))) hR ?_
  clear hS hR; rintro ⟨i, K⟩ aa ww hI hS hR; dsimp only [List.cons_append, List.nil_append] at hI hS hR
  refine wp_seq_k ?_; intro K450 hK450
  refine wp_region_lit ?_
  refine sA hS hR (Yld.lss hS rfl rfl) (by decide) ?_; clear hS; intro aa hS
  refine wpList_nil ?_
  refine hK450 _ _ ?_
  refine wp_seq_k ?_; intro K451 hK451
  refine hS.splitB (t := 42) rfl ?_ ?_ <;> clear hS
  · intro hg hS
    have hKI := hI.2
    refine condT hS rfl ?_
    refine wp_skip ?_
    refine hK451 _ _ ?_
    refine wp_seq_k ?_; intro K452 hK452
    refine wp_block ?_
    refine wp_seq_k ?_; intro K453 hK453
    refine wp_region_lit ?_
    refine sA hS hR ((by first | exact Yld.indexL (sz := 5) (i) hS rfl rfl Try.underlying24 info34 pkQ rfl (by first | rfl | omega) (by omega) | exact Yld.indexB (sz := 5) (i) hS rfl rfl Try.underlying24 info34 rfl (by first | rfl | omega) (by omega))) (by decide) ?_; clear hS; intro aa hS
    refine sA hS hR (Yld.loadAgg hS rfl Try.underlying34 rfl info34 (by first | exact Rds.cons (Rd.blk pkQ (by rfl)) (Rds.cons (Rd.blk pkQ (by rfl)) (Rds.cons (Rd.blk pkQ (by rfl)) (Rds.cons (Rd.blk pkQ (by rfl)) (Rds.cons (Rd.blk pkQ (by rfl)) (Rds.nil))))) | exact Rds.rec pkQ (by intro _; rfl) (by omega) | exact Rds.flat1 pkQ (by intro _; rfl) (by omega)) (by rfl)) (by decide) ?_; clear hS; intro aa hS
    obtain ⟨kj, kje⟩ : ∃ y : Ky, ks[i] = y := ⟨_, rfl⟩
    have hkj : WfK kj := by rw [← kje]; exact hkw _ (List.getElem_mem _)
    replace hS := hS.say (t := 44) (vK kj) rfl (by rw [kje])
    refine sB (Balloc hS hR info34 (by rfl) (by rfl) (by decide) ?_); clear hS hR; intro aa ww bb11 hS hR
    refine sB (Bstore hS hR rfl rfl (by rfl) info34 (by rfl) pkQ (by rfl) (Nat.le_of_ble_eq_true rfl) ?_); clear hR; intro ww hR
    refine wpList_nil ?_
    refine hK453 _ _ ?_
    refine wp_region_lit ?_
    refine sA hS hR (Yld.move hS rfl) (by decide) ?_; clear hS; intro aa hS
    refine sA hS hR (Yld.loadAgg hS rfl Try.underlying34 rfl info34 (by first | exact Rds.cons (Rd.blk pkQ (by rfl)) (Rds.cons (Rd.blk pkQ (by rfl)) (Rds.cons (Rd.blk pkQ (by rfl)) (Rds.cons (Rd.blk pkQ (by rfl)) (Rds.cons (Rd.blk pkQ (by rfl)) (Rds.nil))))) | exact Rds.rec pkQ (by intro _; rfl) (by omega) | exact Rds.flat1 pkQ (by intro _; rfl) (by omega)) (by rfl)) (by decide) ?_; clear hS; intro aa hS
    refine sB (Bcall hS rfl Try.call12 (Put_ok (k := kj) (vx := 0) (hR.pk (r := trieA 69 79 3 _ _ _) pkQ) hkj) (by decide) ?_); clear hS; intro aa ww vv hS hp
    clear hR
    obtain ⟨rfl, hR⟩ := hp
    refine wpList_nil ?_
    refine hK452 _ _ ?_
    refine wp_region_lit ?_
    refine sA hS hR ((by first | exact Yld.add64 hS rfl rfl (by omega) | exact Yld.add hS rfl rfl)) (by decide) ?_; clear hS; intro aa hS
    refine sA hS hR (Yld.move hS rfl) (by decide) ?_; clear hS; intro aa hS
    refine wpList_nil ?_
    
    refine ⟨(i + 1, _), ?_, ?_, hS.le (Le.cons rfl (Le.nilapp (Le.cons rfl (Le.cons rfl (Le.cons rfl (Le.cons rfl (Le.cons rfl (Le.cons rfl (Le.cons rfl (Le.nil _)))))))))), hR.sub (Ex.take pkQ (Ex.nilapp exQ))⟩
    · dsimp only; exact ⟨by omega, hKI.put hkj⟩
    · dsimp only; omega
  · intro hg hS
    have hKI := hI.2
    have hKl := hKI.le
    refine condF hS rfl ?_
    refine wp_exit ?_
    refine hK447 _ _ ?_
    refine wp_seq_k ?_; intro K454 hK454
    have tail454 : ∀ (kk : Ky) (hkk : WfK kk) (aa : Act) (ww : World), Has 156 aa [(2, .int .u8 (tn : Int)), (4, .pointer (some ⟨bb4, 0, none⟩)), (8, .pointer (some ⟨b, 0, none⟩))] → Sep (blk bb4 (eK kk) 34 :: trieA 69 79 3 b K 40 :: old W :: l) ww → K454 aa ww := by
      clear hS hR; intro kk hkk aa ww hS hR
      refine hK454 _ _ ?_
      refine wp_seq_k ?_; intro K455 hK455
      refine wp_region_lit ?_
      refine sA hS hR (Yld.move hS rfl) (by decide) ?_; clear hS; intro aa hS
      refine sA hS hR ((by first | exact Yld.to (Yld.convInt hS rfl rfl Try.underlying3) (congrArg (Value.int .i64) (IntWalk.i64_in _ (by omega))) | exact Yld.convInt hS rfl rfl Try.underlying3)) (by decide) ?_; clear hS; intro aa hS
      refine sA hS hR ((by first | exact Yld.rem64 hS rfl rfl (by omega) | exact Yld.rem hS rfl rfl (by omega))) (by decide) ?_; clear hS; intro aa hS
      obtain ⟨nn, hnn⟩ : ∃ y : Nat, tn % 26 = y := ⟨_, rfl⟩
      have hn26 : nn < 26 := by omega
      replace hS := hS.say (t := 68) (.int .i64 (nn : Int)) rfl (by congr 1; omega)
      refine sA hS hR (Yld.assign hS rfl) (by decide) ?_; clear hS; intro aa hS
      refine wpList_nil ?_
      refine hK455 _ _ ?_
      refine wp_seq_k ?_; intro K456 hK456
      refine wp_region_lit ?_
      refine sA hS hR (Yld.move hS rfl) (by decide) ?_; clear hS; intro aa hS
      refine sA hS hR (Yld.loadAgg hS rfl Try.underlying34 rfl info34 (by first | exact Rds.cons (Rd.blk pkQ (by rfl)) (Rds.cons (Rd.blk pkQ (by rfl)) (Rds.cons (Rd.blk pkQ (by rfl)) (Rds.cons (Rd.blk pkQ (by rfl)) (Rds.cons (Rd.blk pkQ (by rfl)) (Rds.nil))))) | exact Rds.rec pkQ (by intro _; rfl) (by omega) | exact Rds.flat1 pkQ (by intro _; rfl) (by omega)) (by rfl)) (by decide) ?_; clear hS; intro aa hS
      refine sA hS hR (Yld.move hS rfl) (by decide) ?_; clear hS; intro aa hS
      refine sB (Bcall hS rfl Try.call21 (TUnder_ok (K := K) (k := kk) (n := (nn : Int)) (hR.pk (r := trieA 69 79 3 _ _ _) pkQ) hkk) (by decide) ?_); clear hS; intro aa ww vv hS hp
      clear hR
      obtain ⟨ra, ca, rfl, hR⟩ := hp
      have halw := fun y (h : y ∈ undK K kk (nn : Int)) => und_has hKI.wf h
      have hall := und_len (k := kk) (n := (nn : Int)) hKI.wf
      have hcnt := und_count (k := kk) (n := (nn : Int)) hKI.wf hKI.nd ⟨by omega, by omega⟩
      have hparts := und_parts (K := K) (k := kk) (n := nn) (by omega) (fun d => withD kk nn d) (fun d hd => withD_dl hkk (by omega) hd)
      have hfil := und_filter (K := K) (k := kk) (n := nn) hKI.wf (by omega)
      change (undK K kk (nn : Int)).length ≤ _ at hall
      change (undK K kk (nn : Int)).length = _ at hcnt
      change (partsTo (fun d => undK K (withD kk nn d) ((nn : Int) + 1)) 16) = undK K kk (nn : Int) at hparts
      change (undK K (0, 0, 0, 0, 0) 0).filter _ = undK K kk (nn : Int) at hfil
      obtain ⟨al0, hxal0⟩ : ∃ y, undK K kk (nn : Int) = y := ⟨_, rfl⟩
      rw [hxal0] at hS hR halw hall hcnt hparts hfil
      refine sA hS hR (Yld.assign hS rfl) (by decide) ?_; clear hS; intro aa hS
      refine wpList_nil ?_
      refine hK456 _ _ ?_
      refine wp_seq_k ?_; intro K457 hK457
      refine wp_region_lit ?_
      refine sA hS hR (Yld.assign hS rfl) (by decide) ?_; clear hS; intro aa hS
      refine wpList_nil ?_
      refine hK457 _ _ ?_
      refine wp_seq_k ?_; intro K458 hK458
      refine wp_seq_k ?_; intro K459 hK459
      refine wp_region_lit ?_
      refine sA hS hR (Yld.move hS rfl) (by decide) ?_; clear hS; intro aa hS
      refine wpList_nil ?_
      refine hK459 _ _ ?_
      refine wp_block ?_
      replace hR := hR.slsNil (T := 34) (sz := 5)
      replace hR := hR.pk (r := sls none 0 0 34 5 []) pkQ
      replace hR := hR.pk (r := trieA 69 79 3 b K 40) pkQ
      refine loopI (X := Nat × Option Addr × Nat) [(4, _), (8, _), (12, _), (13, _)] (fun x => [(14, .slice x.2.1 (partsTo (fun d => undK K (withD kk nn d) ((nn : Int) + 1)) x.1).length x.2.2), (73, .int .i64 (x.1 : Int))]) (fun x => [trieA 69 79 3 b K 40, sls x.2.1 (partsTo (fun d => undK K (withD kk nn d) ((nn : Int) + 1)) x.1).length x.2.2 34 5 ((partsTo (fun d => undK K (withD kk nn d) ((nn : Int) + 1)) x.1).flatMap eK)]) _ (fun x => x.1 ≤ 16 ∧ (partsTo (fun d => undK K (withD kk nn d) ((nn : Int) + 1)) x.1).length ≤ 40 * x.1) (fun x => 16 - x.1) (0, none, 0) ⟨Nat.zero_le _, Nat.le_refl _⟩ (hS.le (Le.cons rfl (Le.cons rfl (Le.nilapp (Le.cons rfl (Le.cons rfl (Le.cons rfl (Le.cons rfl (Le.nil _))))))))) hR ?_
      clear hS hR; rintro ⟨d, rp, cp⟩ aa ww hI hS hR; dsimp only [List.cons_append, List.nil_append] at hI hS hR
      have hpl := hI.2
      refine wp_seq_k ?_; intro K461 hK461
      refine wp_region_lit ?_
      refine sA hS hR (Yld.lss hS rfl rfl) (by decide) ?_; clear hS; intro aa hS
      refine wpList_nil ?_
      refine hK461 _ _ ?_
      refine wp_seq_k ?_; intro K462 hK462
      refine hS.splitB (t := 74) rfl ?_ ?_ <;> clear hS
      · intro hg hS
        refine condT hS rfl ?_
        refine wp_skip ?_
        refine hK462 _ _ ?_
        refine wp_seq_k ?_; intro K463 hK463
        refine wp_block ?_
        refine wp_seq_k ?_; intro K464 hK464
        refine wp_region_lit ?_
        refine sA hS hR (Yld.move hS rfl) (by decide) ?_; clear hS; intro aa hS
        refine sA hS hR (Yld.assign hS rfl) (by decide) ?_; clear hS; intro aa hS
        refine wpList_nil ?_
        refine hK464 _ _ ?_
        refine wp_seq_k ?_; intro K465 hK465
        refine wp_region_lit ?_
        refine sA hS hR (Yld.loadAgg hS rfl Try.underlying34 rfl info34 (by first | exact Rds.cons (Rd.blk pkQ (by rfl)) (Rds.cons (Rd.blk pkQ (by rfl)) (Rds.cons (Rd.blk pkQ (by rfl)) (Rds.cons (Rd.blk pkQ (by rfl)) (Rds.cons (Rd.blk pkQ (by rfl)) (Rds.nil))))) | exact Rds.rec pkQ (by intro _; rfl) (by omega) | exact Rds.flat1 pkQ (by intro _; rfl) (by omega)) (by rfl)) (by decide) ?_; clear hS; intro aa hS
        refine sA hS hR (Yld.move hS rfl) (by decide) ?_; clear hS; intro aa hS
        refine sA hS hR (Yld.move hS rfl) (by decide) ?_; clear hS; intro aa hS
        refine sA hS hR ((by first | exact Yld.to (Yld.convInt hS rfl rfl Try.underlying5) (congrArg (Value.int .u8) (IntWalk.u8_in _ (by omega))) | exact Yld.convInt hS rfl rfl Try.underlying5)) (by decide) ?_; clear hS; intro aa hS
        replace hS := hS.say (t := 79) (.int .u8 (d : Int)) rfl rfl
        refine sB (Bcall hS rfl Try.call22 (with_ok (k := kk) (n := nn) (d := d) hR hkk (by omega) (by omega)) (by decide) ?_); clear hS; intro aa ww vv hS hp
        clear hR
        obtain ⟨rfl, hR⟩ := hp
        obtain ⟨wd0, hwe⟩ : ∃ y, withD kk nn d = y := ⟨_, rfl⟩
        have hwd : WfK wd0 := by rw [← hwe]; exact withD_wf hkk (by omega)
        rw [hwe] at hS
        refine sB (Balloc hS hR info34 (by rfl) (by rfl) (by decide) ?_); clear hS hR; intro aa ww bb16 hS hR
        refine sB (Bstore hS hR rfl rfl (by rfl) info34 (by rfl) pkQ (by rfl) (Nat.le_of_ble_eq_true rfl) ?_); clear hR; intro ww hR
        refine wpList_nil ?_
        refine hK465 _ _ ?_
        refine wp_seq_k ?_; intro K466 hK466
        refine wp_region_lit ?_
        refine sA hS hR (Yld.move hS rfl) (by decide) ?_; clear hS; intro aa hS
        refine sA hS hR (Yld.loadAgg hS rfl Try.underlying34 rfl info34 (by first | exact Rds.cons (Rd.blk pkQ (by rfl)) (Rds.cons (Rd.blk pkQ (by rfl)) (Rds.cons (Rd.blk pkQ (by rfl)) (Rds.cons (Rd.blk pkQ (by rfl)) (Rds.cons (Rd.blk pkQ (by rfl)) (Rds.nil))))) | exact Rds.rec pkQ (by intro _; rfl) (by omega) | exact Rds.flat1 pkQ (by intro _; rfl) (by omega)) (by rfl)) (by decide) ?_; clear hS; intro aa hS
        refine sA hS hR (Yld.move hS rfl) (by decide) ?_; clear hS; intro aa hS
        refine sA hS hR ((by first | exact Yld.add64 hS rfl rfl (by omega) | exact Yld.add hS rfl rfl)) (by decide) ?_; clear hS; intro aa hS
        refine sB (Bcall hS rfl Try.call21 (TUnder_ok (K := K) (k := wd0) (n := (nn : Int) + 1) (hR.pk (r := trieA 69 79 3 _ _ _) pkQ) hwd) (by decide) ?_); clear hS; intro aa ww vv hS hp
        clear hR
        obtain ⟨rw0, cw0, rfl, hR⟩ := hp
        have hcw := und_count (k := wd0) (n := (nn : Int) + 1) hKI.wf hKI.nd ⟨by omega, by omega⟩
        have hlw := und_len (k := wd0) (n := (nn : Int) + 1) hKI.wf
        change (undK K wd0 ((nn : Int) + 1)).length = _ at hcw
        change (undK K wd0 ((nn : Int) + 1)).length ≤ _ at hlw
        refine sA hS hR (Yld.assign hS rfl) (by decide) ?_; clear hS; intro aa hS
        refine wpList_nil ?_
        refine hK466 _ _ ?_
        refine wp_seq_k ?_; intro K467 hK467
        refine wp_seq_k ?_; intro K468 hK468
        refine wp_region_lit ?_
        refine sA hS hR (Yld.move hS rfl) (by decide) ?_; clear hS; intro aa hS
        refine sA hS hR (Yld.loadAgg hS rfl Try.underlying34 rfl info34 (by first | exact Rds.cons (Rd.blk pkQ (by rfl)) (Rds.cons (Rd.blk pkQ (by rfl)) (Rds.cons (Rd.blk pkQ (by rfl)) (Rds.cons (Rd.blk pkQ (by rfl)) (Rds.cons (Rd.blk pkQ (by rfl)) (Rds.nil))))) | exact Rds.rec pkQ (by intro _; rfl) (by omega) | exact Rds.flat1 pkQ (by intro _; rfl) (by omega)) (by rfl)) (by decide) ?_; clear hS; intro aa hS
        refine sA hS hR (Yld.move hS rfl) (by decide) ?_; clear hS; intro aa hS
        refine sA hS hR ((by first | exact Yld.add64 hS rfl rfl (by omega) | exact Yld.add hS rfl rfl)) (by decide) ?_; clear hS; intro aa hS
        refine sB (Bcall hS rfl Try.call23 (TCount_ok (K := K) (k := wd0) (n := (nn : Int) + 1) (hR.pk (r := trieA 69 79 3 _ _ _) pkQ) hwd) (by decide) ?_); clear hS; intro aa ww vv hS hp
        clear hR
        obtain ⟨rfl, hR⟩ := hp
        rw [if_pos ⟨by omega, by omega⟩, ← hcw] at hS
        refine sA hS hR (Yld.move hS rfl) (by decide) ?_; clear hS; intro aa hS
        refine sA hS hR (Yld.len hS rfl Try.underlying24) (by decide) ?_; clear hS; intro aa hS
        refine sA hS hR (Yld.neq hS rfl rfl) (by decide) ?_; clear hS; intro aa hS
        replace hS := hS.sayB (t := 93) false rfl (by simp)
        refine wpList_nil ?_
        refine hK468 _ _ ?_
        refine condF hS rfl ?_
        refine wp_skip ?_
        refine hK467 _ _ ?_
        refine wp_region_lit ?_
        refine sA hS hR (Yld.move hS rfl) (by decide) ?_; clear hS; intro aa hS
        refine sA hS hR (Yld.move hS rfl) (by decide) ?_; clear hS; intro aa hS
        refine sB (BappendR (sz := 5) hS hR rfl rfl Try.underlying24 info34 rfl rfl (by rfl) pkQ (XC.all pkQ) (by intro _; rfl) (by show (_ + _) * 16 ≤ _; first | omega | (simp only [List.length_take, List.length_append, List.length_drop, List.length_cons, List.length_nil, List.length_map]; omega)) (by first | omega | (simp only [List.length_take, List.length_append, List.length_drop, List.length_cons, List.length_nil, List.length_map]; omega)) (by first | rfl | (simp; done) | (simp; omega)) (by decide) ?_); clear hS hR; intro aa ww r96 c96 hS hR
        have hsc : (partsTo (fun d => undK K (withD kk nn d) ((nn : Int) + 1)) (d + 1)) = (partsTo (fun d => undK K (withD kk nn d) ((nn : Int) + 1)) d) ++ undK K wd0 ((nn : Int) + 1) := by rw [partsTo_succ, hwe]
        rw [← hsc] at hS hR
        refine sA hS hR (Yld.assign hS rfl) (by decide) ?_; clear hS; intro aa hS
        refine wpList_nil ?_
        refine hK463 _ _ ?_
        refine wp_region_lit ?_
        refine sA hS hR ((by first | exact Yld.add64 hS rfl rfl (by omega) | exact Yld.add hS rfl rfl)) (by decide) ?_; clear hS; intro aa hS
        refine sA hS hR (Yld.move hS rfl) (by decide) ?_; clear hS; intro aa hS
        refine wpList_nil ?_
        
        refine ⟨(d + 1, _, _), ?_, ?_, hS.le (Le.cons rfl (Le.cons rfl (Le.nilapp (Le.cons rfl (Le.cons rfl (Le.cons rfl (Le.cons rfl (Le.nil _)))))))), hR.sub (Ex.take pkQ (Ex.take pkQ (Ex.nilapp exQ)))⟩
        · dsimp only; exact ⟨by omega, by rw [hsc, List.length_append]; have := hKI.le; omega⟩
        · dsimp only; omega
      · intro hg hS
        obtain rfl : d = 16 := by omega
        rw [hparts] at hS hR
        refine condF hS rfl ?_
        refine wp_exit ?_
        refine hK458 _ _ ?_
        refine wp_seq_k ?_; intro K469 hK469
        refine wp_seq_k ?_; intro K470 hK470
        refine wp_region_lit ?_
        refine sA hS hR (Yld.move hS rfl) (by decide) ?_; clear hS; intro aa hS
        refine sA hS hR (Yld.loadAgg hS rfl Try.underlying34 rfl info34 (by first | exact Rds.cons (Rd.blk pkQ (by rfl)) (Rds.cons (Rd.blk pkQ (by rfl)) (Rds.cons (Rd.blk pkQ (by rfl)) (Rds.cons (Rd.blk pkQ (by rfl)) (Rds.cons (Rd.blk pkQ (by rfl)) (Rds.nil))))) | exact Rds.rec pkQ (by intro _; rfl) (by omega) | exact Rds.flat1 pkQ (by intro _; rfl) (by omega)) (by rfl)) (by decide) ?_; clear hS; intro aa hS
        refine sA hS hR (Yld.move hS rfl) (by decide) ?_; clear hS; intro aa hS
        refine sB (Bcall hS rfl Try.call23 (TCount_ok (K := K) (k := kk) (n := (nn : Int)) (hR.pk (r := trieA 69 79 3 _ _ _) pkQ) hkk) (by decide) ?_); clear hS; intro aa ww vv hS hp
        clear hR
        obtain ⟨rfl, hR⟩ := hp
        rw [if_pos ⟨by omega, by omega⟩, ← hcnt] at hS
        refine sA hS hR (Yld.move hS rfl) (by decide) ?_; clear hS; intro aa hS
        refine sA hS hR (Yld.len hS rfl Try.underlying24) (by decide) ?_; clear hS; intro aa hS
        refine sA hS hR (Yld.neq hS rfl rfl) (by decide) ?_; clear hS; intro aa hS
        replace hS := hS.sayB (t := 104) false rfl (by simp)
        refine sA hS hR (Yld.move hS rfl) (by decide) ?_; clear hS; intro aa hS
        refine sAg hS hR rfl rfl (Yld.move hS rfl) (by decide) ?_; clear hS; intro aa hS
        refine sAg hS hR rfl rfl (Yld.move hS rfl) (by decide) ?_; clear hS; intro aa hS
        refine sBg hS rfl rfl (Bcall hS rfl Try.call24 (sameKeys_ok (xs := al0) (ys := al0) (q1 := ra) (q2 := rp) (c1 := ca) (c2 := cp) ((hR.pk (r := sls rp _ _ _ _ _) pkQ).pk (r := sls ra _ _ _ _ _) pkQ) (by omega) (by omega)) (by decide) ?_); clear hS; intro aa ww vv hS hp
        clear hR
        obtain ⟨rfl, hR⟩ := hp
        rw [decide_eq_true rfl] at hS
        refine sAg hS hR rfl rfl (Yld.not hS rfl) (by decide) ?_; clear hS; intro aa hS
        replace hS := hS.sayB (t := 109) false rfl (by rfl)
        refine sA hS hR (Yld.pickF hS rfl rfl) (by decide) ?_; clear hS; intro aa hS
        refine wpList_nil ?_
        refine hK470 _ _ ?_
        refine condF hS rfl ?_
        refine wp_skip ?_
        refine hK469 _ _ ?_
        refine wp_seq_k ?_; intro K471 hK471
        refine wp_region_lit ?_
        refine sA hS hR (Yld.assign hS rfl) (by decide) ?_; clear hS; intro aa hS
        refine wpList_nil ?_
        refine hK471 _ _ ?_
        refine wp_seq_k ?_; intro K472 hK472
        refine wp_seq_k ?_; intro K473 hK473
        refine wp_region_lit ?_
        refine sA hS hR (Yld.move hS rfl) (by decide) ?_; clear hS; intro aa hS
        refine sB (Bcall hS rfl Try.call18 (TKeys_ok (K := K) (hR.pk (r := trieA 69 79 3 _ _ _) pkQ)) (by decide) ?_); clear hS; intro aa ww vv hS hp
        clear hR
        obtain ⟨rb, cb, rfl, hR⟩ := hp
        obtain ⟨kys, hxkys⟩ : ∃ y, undK K (0, 0, 0, 0, 0) 0 = y := ⟨_, rfl⟩
        rw [hxkys] at hS hR hfil
        have hAK : AllK K kys := by rw [← hxkys]; exact AllK.of hKI.wf
        have hkyl := hAK.le
        have hkyw : ∀ y ∈ kys, WfK y := fun y h => (hAK.has y h).2
        refine sA hS hR (Yld.len hS rfl Try.underlying24) (by decide) ?_; clear hS; intro aa hS
        refine sA hS hR (Yld.move hS rfl) (by decide) ?_; clear hS; intro aa hS
        refine wpList_nil ?_
        refine hK473 _ _ ?_
        refine wp_block ?_
        refine loopI (X := Nat) [(4, _), (12, _), (13, _), (112, _), (113, _)] (fun x => [(18, .int .i64 ((cntTo (alikeB kk nn) kys x : Nat) : Int)), (114, .int .i64 (x : Int))]) (fun x => []) _ (fun x => x ≤ kys.length) (fun x => kys.length - x) 0 (Nat.zero_le _) (hS.le (Le.cons rfl (Le.cons rfl (Le.nilapp (Le.cons rfl (Le.cons rfl (Le.cons rfl (Le.cons rfl (Le.cons rfl (Le.nil _)))))))))) hR ?_
        clear hS hR; rintro i2 aa ww hI hS hR; dsimp only [List.cons_append, List.nil_append] at hI hS hR
        refine wp_seq_k ?_; intro K475 hK475
        refine wp_region_lit ?_
        refine sA hS hR (Yld.lss hS rfl rfl) (by decide) ?_; clear hS; intro aa hS
        refine wpList_nil ?_
        refine hK475 _ _ ?_
        refine wp_seq_k ?_; intro K476 hK476
        refine hS.splitB (t := 115) rfl ?_ ?_ <;> clear hS
        · intro hg hS
          refine condT hS rfl ?_
          refine wp_skip ?_
          refine hK476 _ _ ?_
          refine wp_seq_k ?_; intro K477 hK477
          refine wp_block ?_
          refine wp_seq_k ?_; intro K478 hK478
          refine wp_region_lit ?_
          refine sA hS hR ((by first | exact Yld.indexL (sz := 5) (i2) hS rfl rfl Try.underlying24 info34 pkQ rfl (by first | rfl | omega) (by omega) | exact Yld.indexB (sz := 5) (i2) hS rfl rfl Try.underlying24 info34 rfl (by first | rfl | omega) (by omega))) (by decide) ?_; clear hS; intro aa hS
          refine sA hS hR (Yld.loadAgg hS rfl Try.underlying34 rfl info34 (by first | exact Rds.cons (Rd.blk pkQ (by rfl)) (Rds.cons (Rd.blk pkQ (by rfl)) (Rds.cons (Rd.blk pkQ (by rfl)) (Rds.cons (Rd.blk pkQ (by rfl)) (Rds.cons (Rd.blk pkQ (by rfl)) (Rds.nil))))) | exact Rds.rec pkQ (by intro _; rfl) (by omega) | exact Rds.flat1 pkQ (by intro _; rfl) (by omega)) (by rfl)) (by decide) ?_; clear hS; intro aa hS
          obtain ⟨ky, kye⟩ : ∃ y : Ky, kys[i2] = y := ⟨_, rfl⟩
          have hky : WfK ky := by rw [← kye]; exact hkyw _ (List.getElem_mem _)
          replace hS := hS.say (t := 117) (vK ky) rfl (by rw [kye])
          refine sB (Balloc hS hR info34 (by rfl) (by rfl) (by decide) ?_); clear hS hR; intro aa ww bb20 hS hR
          refine sB (Bstore hS hR rfl rfl (by rfl) info34 (by rfl) pkQ (by rfl) (Nat.le_of_ble_eq_true rfl) ?_); clear hR; intro ww hR
          refine wpList_nil ?_
          refine hK478 _ _ ?_
          refine wp_seq_k ?_; intro K479 hK479
          refine wp_region_lit ?_
          refine sA hS hR (Yld.assign hS rfl) (by decide) ?_; clear hS; intro aa hS
          refine wpList_nil ?_
          refine hK479 _ _ ?_
          refine wp_seq_k ?_; intro K480 hK480
          refine wp_seq_k ?_; intro K481 hK481
          refine wp_region_lit ?_
          refine sA hS hR (Yld.move hS rfl) (by decide) ?_; clear hS; intro aa hS
          refine sA hS hR (Yld.move hS rfl) (by decide) ?_; clear hS; intro aa hS
          refine wpList_nil ?_
          refine hK481 _ _ ?_
          refine wp_block ?_
          refine loopI (X := Nat) [(4, _), (12, _), (13, _), (18, _), (20, _), (112, _), (113, _), (114, _), (115, _), (116, _), (117, _), (118, _)] (fun x => [(21, .bool (alikeB kk x ky)), (119, .int .i64 (x : Int))]) (fun x => []) _ (fun x => x ≤ nn) (fun x => nn - x) 0 (Nat.zero_le _) (hS.le (Le.cons rfl (Le.cons rfl (Le.nilapp (Le.cons rfl (Le.cons rfl (Le.cons rfl (Le.cons rfl (Le.cons rfl (Le.cons rfl (Le.cons rfl (Le.cons rfl (Le.cons rfl (Le.cons rfl (Le.cons rfl (Le.cons rfl (Le.nil _))))))))))))))))) hR ?_
          clear hS hR; rintro j aa ww hI hS hR; dsimp only [List.cons_append, List.nil_append] at hI hS hR
          refine wp_seq_k ?_; intro K483 hK483
          refine wp_region_lit ?_
          refine sA hS hR (Yld.lss hS rfl rfl) (by decide) ?_; clear hS; intro aa hS
          refine wpList_nil ?_
          refine hK483 _ _ ?_
          refine wp_seq_k ?_; intro K484 hK484
          refine hS.splitB (t := 120) rfl ?_ ?_ <;> clear hS
          · intro hg hS
            have hax := alikeB_succ (k := kk) (y := ky) (n := j)
            refine condT hS rfl ?_
            refine wp_skip ?_
            refine hK484 _ _ ?_
            refine wp_seq_k ?_; intro K485 hK485
            refine wp_block ?_
            refine wp_seq_k ?_; intro K486 hK486
            refine wp_region_lit ?_
            refine sA hS hR (Yld.move hS rfl) (by decide) ?_; clear hS; intro aa hS
            refine sA hS hR (Yld.assign hS rfl) (by decide) ?_; clear hS; intro aa hS
            refine wpList_nil ?_
            refine hK486 _ _ ?_
            refine drawn (by kernel_rfl) hR Ex.refl ?_; clear hR; intro ww hR hR0
            refine dA 0 rfl (by kernel_rfl) (by kernel_rfl) (by kernel_rfl) (fun _ _ _ h => h) hS hR0 (Yld.move hS rfl) (by decide) ?_; clear hS; intro aa hS
            refine dA 1 rfl (by kernel_rfl) (by kernel_rfl) (by kernel_rfl) (fun _ _ _ h => h) hS hR0 (Yld.move hS rfl) (by decide) ?_; clear hS; intro aa hS
            refine hS.splitB (t := 123) rfl ?_ ?_ <;> clear hS
            · intro hg hS
              have hgt := hg
              refine dAg 2 rfl (by kernel_rfl) (by kernel_rfl) (by kernel_rfl) (fun _ _ _ h => h) hS rfl rfl hR0 (Yld.loadAgg hS rfl Try.underlying34 rfl info34 (by first | exact Rds.cons (Rd.blk pkQ (by rfl)) (Rds.cons (Rd.blk pkQ (by rfl)) (Rds.cons (Rd.blk pkQ (by rfl)) (Rds.cons (Rd.blk pkQ (by rfl)) (Rds.cons (Rd.blk pkQ (by rfl)) (Rds.nil))))) | exact Rds.rec pkQ (by intro _; rfl) (by omega) | exact Rds.flat1 pkQ (by intro _; rfl) (by omega)) (by rfl)) (by decide) ?_; clear hS; intro aa hS
              refine dAg 3 rfl (by kernel_rfl) (by kernel_rfl) (by kernel_rfl) (fun _ _ _ h => h) hS rfl rfl hR0 (Yld.move hS rfl) (by decide) ?_; clear hS; intro aa hS
              refine dAg 5 rfl (by kernel_rfl) (by kernel_rfl) (by kernel_rfl) (fun _ _ _ h => h) hS rfl rfl hR0 (Yld.loadAgg hS rfl Try.underlying34 rfl info34 (by first | exact Rds.cons (Rd.blk pkQ (by rfl)) (Rds.cons (Rd.blk pkQ (by rfl)) (Rds.cons (Rd.blk pkQ (by rfl)) (Rds.cons (Rd.blk pkQ (by rfl)) (Rds.cons (Rd.blk pkQ (by rfl)) (Rds.nil))))) | exact Rds.rec pkQ (by intro _; rfl) (by omega) | exact Rds.flat1 pkQ (by intro _; rfl) (by omega)) (by rfl)) (by decide) ?_; clear hS; intro aa hS
              refine dAg 6 rfl (by kernel_rfl) (by kernel_rfl) (by kernel_rfl) (fun _ _ _ h => h) hS rfl rfl hR0 (Yld.move hS rfl) (by decide) ?_; clear hS; intro aa hS
              refine dOne (i := 4) (by kernel_rfl) ?_
              refine dopg rfl hS rfl rfl (Bcall hS rfl Try.call20 (Digit_ok (k := ky) hR hky) (by decide) ?_); clear hS; intro aa ww vv hS hp
              clear hR hR0
              obtain ⟨rfl, hR⟩ := hp
              refine dnext (hR.sub exQ) ?_; intro hR0
              replace hS := hS.say (t := 126) (.int .u8 (dig ky j)) rfl (by rw [show digI ky (j : Int) = dig ky j from by rw [digI, if_pos (by omega), Int.toNat_natCast]])
              refine dOne (i := 7) (by kernel_rfl) ?_
              refine dopg rfl hS rfl rfl (Bcall hS rfl Try.call20 (Digit_ok (k := kk) hR hkk) (by decide) ?_); clear hS; intro aa ww vv hS hp
              clear hR hR0
              obtain ⟨rfl, hR⟩ := hp
              refine dnext (hR.sub exQ) ?_; intro hR0
              replace hS := hS.say (t := 129) (.int .u8 (dig kk j)) rfl (by rw [show digI kk (j : Int) = dig kk j from by rw [digI, if_pos (by omega), Int.toNat_natCast]])
              refine dAg 8 rfl (by kernel_rfl) (by kernel_rfl) (by kernel_rfl) (fun _ _ _ h => h) hS rfl rfl hR0 (Yld.eql hS rfl rfl) (by decide) ?_; clear hS; intro aa hS
              refine dA 9 rfl (by kernel_rfl) (by kernel_rfl) (by kernel_rfl) (fun _ _ _ h => h) hS hR0 (Yld.pickT hS rfl rfl) (by decide) ?_; clear hS; intro aa hS
              replace hS := hS.say (t := 131) (.bool (alikeB kk (j + 1) ky)) rfl (by rw [hax]; first | rw [hgt, Bool.true_and] | (rw [hgt, Bool.false_and]))
              refine dA 10 rfl (by kernel_rfl) (by kernel_rfl) (by kernel_rfl) (fun _ _ _ h => h) hS hR0 (Yld.assign hS rfl) (by decide) ?_; clear hS; intro aa hS
              refine wpAnyH_done (by kernel_rfl) ?_ _; clear hR0
              refine hK485 _ _ ?_
              refine wp_region_lit ?_
              refine sA hS hR ((by first | exact Yld.add64 hS rfl rfl (by omega) | exact Yld.add hS rfl rfl)) (by decide) ?_; clear hS; intro aa hS
              refine sA hS hR (Yld.move hS rfl) (by decide) ?_; clear hS; intro aa hS
              refine wpList_nil ?_
              
              refine ⟨j + 1, ?_, ?_, hS.le (Le.cons rfl (Le.cons rfl (Le.nilapp (Le.cons rfl (Le.cons rfl (Le.cons rfl (Le.cons rfl (Le.cons rfl (Le.cons rfl (Le.cons rfl (Le.cons rfl (Le.cons rfl (Le.cons rfl (Le.cons rfl (Le.cons rfl (Le.nil _)))))))))))))))), hR.sub (Ex.nilapp exQ)⟩
              · omega
              · omega
            · intro hg hS
              have hgt := hg
              refine dSkip 2 rfl (by kernel_rfl) (by kernel_rfl) (by kernel_rfl) (fun _ _ _ h => h) hS rfl rfl rfl hR0 (by decide) ?_; clear hS; intro aa hS
              refine dSkip 3 rfl (by kernel_rfl) (by kernel_rfl) (by kernel_rfl) (fun _ _ _ h => h) hS rfl rfl rfl hR0 (by decide) ?_; clear hS; intro aa hS
              refine dSkip 4 rfl (by kernel_rfl) (by kernel_rfl) (by kernel_rfl) (fun _ _ _ h => h) hS rfl rfl rfl hR0 (by decide) ?_; clear hS; intro aa hS
              refine dSkip 5 rfl (by kernel_rfl) (by kernel_rfl) (by kernel_rfl) (fun _ _ _ h => h) hS rfl rfl rfl hR0 (by decide) ?_; clear hS; intro aa hS
              refine dSkip 6 rfl (by kernel_rfl) (by kernel_rfl) (by kernel_rfl) (fun _ _ _ h => h) hS rfl rfl rfl hR0 (by decide) ?_; clear hS; intro aa hS
              refine dSkip 7 rfl (by kernel_rfl) (by kernel_rfl) (by kernel_rfl) (fun _ _ _ h => h) hS rfl rfl rfl hR0 (by decide) ?_; clear hS; intro aa hS
              refine dSkip 8 rfl (by kernel_rfl) (by kernel_rfl) (by kernel_rfl) (fun _ _ _ h => h) hS rfl rfl rfl hR0 (by decide) ?_; clear hS; intro aa hS
              refine dA 9 rfl (by kernel_rfl) (by kernel_rfl) (by kernel_rfl) (fun _ _ _ h => h) hS hR0 (Yld.pickF hS rfl rfl) (by decide) ?_; clear hS; intro aa hS
              replace hS := hS.say (t := 131) (.bool (alikeB kk (j + 1) ky)) rfl (by rw [hax]; first | rw [hgt, Bool.true_and] | (rw [hgt, Bool.false_and]))
              refine dA 10 rfl (by kernel_rfl) (by kernel_rfl) (by kernel_rfl) (fun _ _ _ h => h) hS hR0 (Yld.assign hS rfl) (by decide) ?_; clear hS; intro aa hS
              refine wpAnyH_done (by kernel_rfl) ?_ _; clear hR0
              refine hK485 _ _ ?_
              refine wp_region_lit ?_
              refine sA hS hR ((by first | exact Yld.add64 hS rfl rfl (by omega) | exact Yld.add hS rfl rfl)) (by decide) ?_; clear hS; intro aa hS
              refine sA hS hR (Yld.move hS rfl) (by decide) ?_; clear hS; intro aa hS
              refine wpList_nil ?_
              
              refine ⟨j + 1, ?_, ?_, hS.le (Le.cons rfl (Le.cons rfl (Le.nilapp (Le.cons rfl (Le.cons rfl (Le.cons rfl (Le.cons rfl (Le.cons rfl (Le.cons rfl (Le.cons rfl (Le.cons rfl (Le.cons rfl (Le.cons rfl (Le.cons rfl (Le.cons rfl (Le.nil _)))))))))))))))), hR.sub (Ex.nilapp exQ)⟩
              · omega
              · omega
          · intro hg hS
            obtain rfl : nn = j := by omega
            refine condF hS rfl ?_
            refine wp_exit ?_
            refine hK480 _ _ ?_
            refine wp_seq_k ?_; intro K487 hK487
            refine wp_region_lit ?_
            refine sA hS hR (Yld.move hS rfl) (by decide) ?_; clear hS; intro aa hS
            refine wpList_nil ?_
            refine hK487 _ _ ?_
            refine hS.splitB (t := 133) rfl ?_ ?_ <;> clear hS
            · intro hg hS
              have hpy : alikeB kk nn kys[i2] = true := by rw [kye]; exact hg
              have hce0 := cntTo_at (p := alikeB kk nn) (ks := kys) (i := i2) (by omega) hpy
              rw [hfil] at hce0
              obtain ⟨hcl, hce1⟩ := List.getElem?_eq_some_iff.1 hce0
              have hce : al0[cntTo (alikeB kk nn) kys i2] = ky := by rw [hce1, kye]
              have hcy := cntTo_yes (p := alikeB kk nn) (ks := kys) (i := i2) (by omega) hpy
              refine condT hS rfl ?_
              refine wp_seq_k ?_; intro K488 hK488
              refine wp_seq_k ?_; intro K489 hK489
              refine drawn (by kernel_rfl) hR Ex.refl ?_; clear hR; intro ww hR hR0
              refine dA 0 rfl (by kernel_rfl) (by kernel_rfl) (by kernel_rfl) (fun _ _ _ h => h) hS hR0 (Yld.move hS rfl) (by decide) ?_; clear hS; intro aa hS
              refine dA 1 rfl (by kernel_rfl) (by kernel_rfl) (by kernel_rfl) (fun _ _ _ h => h) hS hR0 (Yld.move hS rfl) (by decide) ?_; clear hS; intro aa hS
              refine dA 2 rfl (by kernel_rfl) (by kernel_rfl) (by kernel_rfl) (fun _ _ _ h => h) hS hR0 (Yld.len hS rfl Try.underlying24) (by decide) ?_; clear hS; intro aa hS
              refine dA 3 rfl (by kernel_rfl) (by kernel_rfl) (by kernel_rfl) (fun _ _ _ h => h) hS hR0 (Yld.geq hS rfl rfl) (by decide) ?_; clear hS; intro aa hS
              replace hS := hS.sayB (t := 137) false rfl (by exact decide_eq_false (by omega))
              refine dA 4 rfl (by kernel_rfl) (by kernel_rfl) (by kernel_rfl) (fun _ _ _ h => h) hS hR0 (Yld.move hS rfl) (by decide) ?_; clear hS; intro aa hS
              refine dAg 5 rfl (by kernel_rfl) (by kernel_rfl) (by kernel_rfl) (fun _ _ _ h => h) hS rfl rfl hR0 (Yld.move hS rfl) (by decide) ?_; clear hS; intro aa hS
              refine dAg 6 rfl (by kernel_rfl) (by kernel_rfl) (by kernel_rfl) (fun _ _ _ h => h) hS rfl rfl hR0 (Yld.move hS rfl) (by decide) ?_; clear hS; intro aa hS
              refine dAg 7 rfl (by kernel_rfl) (by kernel_rfl) (by kernel_rfl) (fun _ _ _ h => h) hS rfl rfl hR0 ((by first | exact Yld.indexL (sz := 5) (cntTo (alikeB kk nn) kys i2) hS rfl rfl Try.underlying24 info34 pkQ rfl (by first | rfl | omega) (by omega) | exact Yld.indexB (sz := 5) (cntTo (alikeB kk nn) kys i2) hS rfl rfl Try.underlying24 info34 rfl (by first | rfl | omega) (by omega))) (by decide) ?_; clear hS; intro aa hS
              refine dAg 8 rfl (by kernel_rfl) (by kernel_rfl) (by kernel_rfl) (fun _ _ _ h => h) hS rfl rfl hR0 (Yld.loadAgg hS rfl Try.underlying34 rfl info34 (by first | exact Rds.cons (Rd.blk pkQ (by rfl)) (Rds.cons (Rd.blk pkQ (by rfl)) (Rds.cons (Rd.blk pkQ (by rfl)) (Rds.cons (Rd.blk pkQ (by rfl)) (Rds.cons (Rd.blk pkQ (by rfl)) (Rds.nil))))) | exact Rds.rec pkQ (by intro _; rfl) (by omega) | exact Rds.flat1 pkQ (by intro _; rfl) (by omega)) (by rfl)) (by decide) ?_; clear hS; intro aa hS
              replace hS := hS.say (t := 142) (vK ky) rfl (by rw [hce])
              refine dAg 9 rfl (by kernel_rfl) (by kernel_rfl) (by kernel_rfl) (fun _ _ _ h => h) hS rfl rfl hR0 (Yld.loadAgg hS rfl Try.underlying34 rfl info34 (by first | exact Rds.cons (Rd.blk pkQ (by rfl)) (Rds.cons (Rd.blk pkQ (by rfl)) (Rds.cons (Rd.blk pkQ (by rfl)) (Rds.cons (Rd.blk pkQ (by rfl)) (Rds.cons (Rd.blk pkQ (by rfl)) (Rds.nil))))) | exact Rds.rec pkQ (by intro _; rfl) (by omega) | exact Rds.flat1 pkQ (by intro _; rfl) (by omega)) (by rfl)) (by decide) ?_; clear hS; intro aa hS
              refine dAg 10 rfl (by kernel_rfl) (by kernel_rfl) (by kernel_rfl) (fun _ _ _ h => h) hS rfl rfl hR0 (Yld.binRun hS rfl rfl (neq34 _ _ _ _ _ _ _ _ _ _ _ _)) (by decide) ?_; clear hS; intro aa hS
              replace hS := hS.sayB (t := 144) false rfl (by simp)
              refine dA 11 rfl (by kernel_rfl) (by kernel_rfl) (by kernel_rfl) (fun _ _ _ h => h) hS hR0 (Yld.pickF hS rfl rfl) (by decide) ?_; clear hS; intro aa hS
              refine wpAnyH_done (by kernel_rfl) ?_ _; clear hR0
              refine hK489 _ _ ?_
              refine condF hS rfl ?_
              refine wp_skip ?_
              refine hK488 _ _ ?_
              refine wp_region_lit ?_
              refine sA hS hR (Yld.move hS rfl) (by decide) ?_; clear hS; intro aa hS
              refine sA hS hR ((by first | exact Yld.add64 hS rfl rfl (by omega) | exact Yld.add hS rfl rfl)) (by decide) ?_; clear hS; intro aa hS
              refine sA hS hR (Yld.assign hS rfl) (by decide) ?_; clear hS; intro aa hS
              refine wpList_nil ?_
              refine hK477 _ _ ?_
              refine wp_region_lit ?_
              refine sA hS hR ((by first | exact Yld.add64 hS rfl rfl (by omega) | exact Yld.add hS rfl rfl)) (by decide) ?_; clear hS; intro aa hS
              refine sA hS hR (Yld.move hS rfl) (by decide) ?_; clear hS; intro aa hS
              refine wpList_nil ?_
              replace hS := hS.say (t := 18) (.int .i64 ((cntTo (alikeB kk nn) kys (i2 + 1) : Nat) : Int)) rfl (by rw [hcy]; rfl)
              refine ⟨i2 + 1, ?_, ?_, hS.le (Le.cons rfl (Le.cons rfl (Le.nilapp (Le.cons rfl (Le.cons rfl (Le.cons rfl (Le.cons rfl (Le.cons rfl (Le.nil _))))))))), hR.sub (Ex.nilapp exQ)⟩
              · omega
              · omega
            · intro hg hS
              have hpn : ¬ alikeB kk nn kys[i2] = true := by rw [kye]; exact fun h => by rw [hg] at h; cases h
              have hcy := cntTo_no (p := alikeB kk nn) (ks := kys) (i := i2) (by omega) hpn
              refine condF hS rfl ?_
              refine wp_skip ?_
              refine hK477 _ _ ?_
              refine wp_region_lit ?_
              refine sA hS hR ((by first | exact Yld.add64 hS rfl rfl (by omega) | exact Yld.add hS rfl rfl)) (by decide) ?_; clear hS; intro aa hS
              refine sA hS hR (Yld.move hS rfl) (by decide) ?_; clear hS; intro aa hS
              refine wpList_nil ?_
              replace hS := hS.say (t := 18) (.int .i64 ((cntTo (alikeB kk nn) kys (i2 + 1) : Nat) : Int)) rfl (by rw [hcy])
              refine ⟨i2 + 1, ?_, ?_, hS.le (Le.cons rfl (Le.cons rfl (Le.nilapp (Le.cons rfl (Le.cons rfl (Le.cons rfl (Le.cons rfl (Le.cons rfl (Le.nil _))))))))), hR.sub (Ex.nilapp exQ)⟩
              · omega
              · omega
        · intro hg hS
          obtain rfl : i2 = kys.length := by omega
          refine condF hS rfl ?_
          refine wp_exit ?_
          refine hK472 _ _ ?_
          refine wp_seq_k ?_; intro K490 hK490
          refine wp_region_lit ?_
          refine sA hS hR (Yld.move hS rfl) (by decide) ?_; clear hS; intro aa hS
          refine sA hS hR (Yld.move hS rfl) (by decide) ?_; clear hS; intro aa hS
          refine sA hS hR (Yld.len hS rfl Try.underlying24) (by decide) ?_; clear hS; intro aa hS
          refine sA hS hR (Yld.eql hS rfl rfl) (by decide) ?_; clear hS; intro aa hS
          replace hS := hS.sayB (t := 152) true rfl (by exact decide_eq_true (by rw [← hfil, ← cntTo_all]))
          refine sA hS hR (Yld.move hS rfl) (by decide) ?_; clear hS; intro aa hS
          refine sBg hS rfl rfl (Bcall hS rfl Try.call17 (awake_ok hR) (by decide) ?_); clear hS; intro aa ww vv hS hp
          clear hR
          obtain ⟨rfl, hR⟩ := hp
          refine sA hS hR (Yld.pickT hS rfl rfl) (by decide) ?_; clear hS; intro aa hS
          refine sA hS hR (Yld.assign hS rfl) (by decide) ?_; clear hS; intro aa hS
          refine wpList_nil ?_
          refine hK490 _ _ ?_
          refine wp_ret ?_
          repeat (first | with_reducible refine thenR ?_ | with_reducible refine blockR ?_ | with_reducible refine scopeR ?_)
          refine ret1 (fn := Try.f6) (e := .ret) (.inl rfl) Try.results6 hS hR ⟨_, (.tmp rfl), ?_⟩
          exact ⟨rfl, (hR.sub exQ)⟩
    refine wp_seq_k ?_; intro K491 hK491
    refine wp_region_lit ?_
    refine sA hS hR (Yld.move hS rfl) (by decide) ?_; clear hS; intro aa hS
    refine sA hS hR (Yld.len hS rfl Try.underlying24) (by decide) ?_; clear hS; intro aa hS
    refine sA hS hR (Yld.gtr hS rfl rfl) (by decide) ?_; clear hS; intro aa hS
    refine sA hS hR (Yld.move hS rfl) (by decide) ?_; clear hS; intro aa hS
    refine hS.splitB (t := 52) rfl ?_ ?_ <;> clear hS
    · intro hg hS
      refine sAg hS hR rfl rfl (Yld.move hS rfl) (by decide) ?_; clear hS; intro aa hS
      refine sAg hS hR rfl rfl ((by first | exact Yld.rem64 hS rfl rfl (by omega) | exact Yld.rem hS rfl rfl (by omega))) (by decide) ?_; clear hS; intro aa hS
      refine sAg hS hR rfl rfl (Yld.eql hS rfl rfl) (by decide) ?_; clear hS; intro aa hS
      refine sA hS hR (Yld.pickT hS rfl rfl) (by decide) ?_; clear hS; intro aa hS
      refine wpList_nil ?_
      refine hK491 _ _ ?_
      refine hS.splitB (t := 56) rfl ?_ ?_ <;> clear hS
      · intro hg hS
        refine condT hS rfl ?_
        refine wp_region_lit ?_
        refine sA hS hR (Yld.move hS rfl) (by decide) ?_; clear hS; intro aa hS
        refine sA hS hR (Yld.move hS rfl) (by decide) ?_; clear hS; intro aa hS
        refine sA hS hR ((by first | exact Yld.to (Yld.quo hS rfl rfl (by omega)) (congrArg (Value.int .u8) (IntWalk.u8_quo _ _ (by omega))) | exact Yld.quo hS rfl rfl (by omega))) (by decide) ?_; clear hS; intro aa hS
        refine sA hS hR ((by first | exact Yld.to (Yld.convInt hS rfl rfl Try.underlying3) (congrArg (Value.int .i64) (IntWalk.i64_in _ (by omega))) | exact Yld.convInt hS rfl rfl Try.underlying3)) (by decide) ?_; clear hS; intro aa hS
        refine sA hS hR (Yld.move hS rfl) (by decide) ?_; clear hS; intro aa hS
        refine sA hS hR (Yld.len hS rfl Try.underlying24) (by decide) ?_; clear hS; intro aa hS
        refine sA hS hR ((by first | exact Yld.rem64 hS rfl rfl (by omega) | exact Yld.rem hS rfl rfl (by omega))) (by decide) ?_; clear hS; intro aa hS
        obtain ⟨m, hm⟩ : ∃ m : Nat, tn / 2 % ks.length = m := ⟨_, rfl⟩
        have hml : m < ks.length := by rw [← hm]; exact Nat.mod_lt _ (by omega)
        replace hS := hS.say (t := 63) (.int .i64 (m : Int)) rfl (by rw [← hm, Int.natCast_emod]; congr 1)
        refine sA hS hR ((by first | exact Yld.indexL (sz := 5) (m) hS rfl rfl Try.underlying24 info34 pkQ rfl (by first | rfl | omega) (by omega) | exact Yld.indexB (sz := 5) (m) hS rfl rfl Try.underlying24 info34 rfl (by first | rfl | omega) (by omega))) (by decide) ?_; clear hS; intro aa hS
        refine sA hS hR (Yld.loadAgg hS rfl Try.underlying34 rfl info34 (by first | exact Rds.cons (Rd.blk pkQ (by rfl)) (Rds.cons (Rd.blk pkQ (by rfl)) (Rds.cons (Rd.blk pkQ (by rfl)) (Rds.cons (Rd.blk pkQ (by rfl)) (Rds.cons (Rd.blk pkQ (by rfl)) (Rds.nil))))) | exact Rds.rec pkQ (by intro _; rfl) (by omega) | exact Rds.flat1 pkQ (by intro _; rfl) (by omega)) (by rfl)) (by decide) ?_; clear hS; intro aa hS
        obtain ⟨kb, kbe⟩ : ∃ y : Ky, ks[m] = y := ⟨_, rfl⟩
        have hkb : WfK kb := by rw [← kbe]; exact hkw _ (List.getElem_mem _)
        replace hS := hS.say (t := 65) (vK kb) rfl (by rw [kbe])
        refine sB (Bstore hS hR rfl rfl (by rfl) info34 (by rfl) pkQ (by rfl) (Nat.le_of_ble_eq_true rfl) ?_); clear hR; intro ww hR
        refine wpList_nil ?_
        try dsimp only [lay, List.set] at hR
        exact tail454 kb hkb _ _ (hS.le (Le.cons rfl (Le.cons rfl (Le.cons rfl (Le.nil _))))) (hR.sub exQ)
      · intro hg hS
        refine condF hS rfl ?_
        refine wp_skip ?_
        try dsimp only [lay, List.set] at hR
        exact tail454 k hk _ _ (hS.le (Le.cons rfl (Le.cons rfl (Le.cons rfl (Le.nil _))))) (hR.sub exQ)
    · intro hg hS
      refine sSkip hS rfl rfl rfl (by decide) ?_; clear hS; intro aa hS
      refine sSkip hS rfl rfl rfl (by decide) ?_; clear hS; intro aa hS
      refine sSkip hS rfl rfl rfl (by decide) ?_; clear hS; intro aa hS
      refine sA hS hR (Yld.pickF hS rfl rfl) (by decide) ?_; clear hS; intro aa hS
      refine wpList_nil ?_
      refine hK491 _ _ ?_
      refine condF hS rfl ?_
      refine wp_skip ?_
      try dsimp only [lay, List.set] at hR
      exact tail454 k hk _ _ (hS.le (Le.cons rfl (Le.cons rfl (Le.cons rfl (Le.nil _))))) (hR.sub exQ)
end Go.Proofs.Ytmcfmhiadlkglaa.Sx
