/-
  
-/
import Derived.Test.YtmcfmhiadlkglaaTrK
import Derived.Test.YtmcfmhiadlkglaaTrie13
namespace Go.Proofs.Ytmcfmhiadlkglaa.Sx
open Go
set_option linter.unusedVariables false
set_option linter.unusedSimpArgs false



set_option maxHeartbeats 2000000 in
set_option maxRecDepth 20000 in
theorem TrieSteps_ok {W : World} {q1 q2 : Option Addr} {n1 n2 c1 c2 : Nat} {x1 x2 : List (List Int)} {k : Ky} (A1 : ArgS W [.u32] q1 n1 c1 x1) (A2 : ArgS W [.u32] q2 n2 c2 x2) {l : List HP} {w : World} (hR : Sep (old W :: l) w) (hk : WfK k) : CallR Try.prog 9 [.slice q1 n1 c1, .slice q2 n2 c2, vK k] w (fun v w' => v = .bool true ∧ Sep (old W :: l) w') := by
  refine enter Try.func9 rfl Try.ntmps9 (Nat.le_of_ble_eq_true rfl) ?_; intro aa hS
  have hcap1 := A1.cap
  have hcap2 := A2.cap
  refine wp_seq_k ?_; intro K349 hK349
  refine wp_region_lit ?_
  refine sB (Bbox hS hR rfl (by rfl) (by decide) ?_); clear hS hR; intro aa ww bb5 hS hR
  refine sA hS hR (Yld.assign hS rfl) (by decide) ?_; clear hS; intro aa hS
  refine wpList_nil ?_
  refine hK349 _ _ ?_
  refine wp_seq_k ?_; intro K350 hK350
  refine wp_region_lit ?_
  refine sB (Bcall hS rfl Try.call11 (TNew_ok hR (by omega)) (by decide) ?_); clear hS; intro aa ww vv hS hp
  clear hR
  obtain ⟨b, rfl, hR⟩ := hp
  refine sA hS hR (Yld.move hS rfl) (by decide) ?_; clear hS; intro aa hS
  refine sA hS hR (Yld.extract hS rfl rfl) (by decide) ?_; clear hS; intro aa hS
  refine sA hS hR (Yld.extract hS rfl rfl) (by decide) ?_; clear hS; intro aa hS
  refine sA hS hR (Yld.assign hS rfl) (by decide) ?_; clear hS; intro aa hS
  refine sA hS hR (Yld.assign hS rfl) (by decide) ?_; clear hS; intro aa hS
  refine wpList_nil ?_
  refine hK350 _ _ ?_
  refine wp_seq_k ?_; intro K351 hK351
  refine wp_seq_k ?_; intro K352 hK352
  refine wp_region_lit ?_
  refine sA hS hR (Yld.move hS rfl) (by decide) ?_; clear hS; intro aa hS
  refine sA hS hR (Yld.neq hS rfl rfl) (by decide) ?_; clear hS; intro aa hS
  replace hS := hS.sayB (t := 31) false rfl (by simp)
  refine sA hS hR (Yld.move hS rfl) (by decide) ?_; clear hS; intro aa hS
  refine sAg hS hR rfl rfl (Yld.move hS rfl) (by decide) ?_; clear hS; intro aa hS
  refine sAg hS hR rfl rfl (Yld.eqlNil hS rfl rfl Try.underlying26) (by decide) ?_; clear hS; intro aa hS
  replace hS := hS.sayB (t := 34) false rfl (by rfl)
  refine sA hS hR (Yld.pickF hS rfl rfl) (by decide) ?_; clear hS; intro aa hS
  refine wpList_nil ?_
  refine hK352 _ _ ?_
  refine condF hS rfl ?_
  refine wp_skip ?_
  refine hK351 _ _ ?_
  refine wp_seq_k ?_; intro K353 hK353
  refine wp_seq_k ?_; intro K354 hK354
  refine wp_region_lit ?_
  refine sA hS hR (Yld.move hS rfl) (by decide) ?_; clear hS; intro aa hS
  refine sA hS hR (Yld.move hS rfl) (by decide) ?_; clear hS; intro aa hS
  refine sA hS hR (Yld.len hS rfl Try.underlying22) (by decide) ?_; clear hS; intro aa hS
  refine sA hS hR (Yld.min hS rfl rfl) (by decide) ?_; clear hS; intro aa hS
  refine sA hS hR (Yld.sliceHi hS rfl rfl Try.underlying22 info31 (by omega) (by omega)) (by decide) ?_; clear hS; intro aa hS
  obtain ⟨mm, hmm0, hmm1⟩ : ∃ y : Nat, (Min.min (n1 : Int) 40).toNat = y ∧ y ≤ n1 ∧ y ≤ 40 := ⟨_, rfl, by omega, by omega⟩
  replace hS := hS.say (t := 40) (.slice q1 mm c1) rfl (by rw [hmm0])
  refine sB (Bcall hS rfl Try.call10 (Named_ok A1 (hR.pk (r := old W) pkQ) (m := mm) (by omega) (by omega)) (by decide) ?_); clear hS; intro aa ww vv hS hp
  clear hR
  obtain ⟨ks, rk, rkc, rfl, hkl, hkw, hR⟩ := hp
  refine sA hS hR (Yld.len hS rfl Try.underlying24) (by decide) ?_; clear hS; intro aa hS
  refine sA hS hR (Yld.move hS rfl) (by decide) ?_; clear hS; intro aa hS
  refine wpList_nil ?_
  refine hK354 _ _ ?_
  refine wp_block ?_
  replace hR := hR.pk (r := trieA 69 79 3 b [] 60) pkQ
  refine loopI (X := Nat × List (Ky × Int)) [(1, _), (5, _), (6, _), (7, _), (41, _), (42, _)] (fun x => [(43, .int .i64 (x.1 : Int))]) (fun x => [trieA 69 79 3 b x.2 60]) _ (fun x => x.1 ≤ ks.length ∧ KI x.2 x.1) (fun x => ks.length - x.1) (0, []) ⟨Nat.zero_le _, KI.nil⟩ (hS.le (Le.cons rfl (Le.nilapp (Le.cons rfl (Le.cons rfl (Le.cons rfl (Le.cons rfl (Le.cons rfl (Le.cons rfl (Le.nil _)))))))))) hR ?_
  clear hS hR; rintro ⟨i, K⟩ aa ww hI hS hR; dsimp only [List.cons_append, List.nil_append] at hI hS hR
  refine wp_seq_k ?_; intro K356 hK356
  refine wp_region_lit ?_
  refine sA hS hR (Yld.lss hS rfl rfl) (by decide) ?_; clear hS; intro aa hS
  refine wpList_nil ?_
  refine hK356 _ _ ?_
  refine wp_seq_k ?_; intro K357 hK357
  refine hS.splitB (t := 44) rfl ?_ ?_ <;> clear hS
  · intro hg hS
    have hKI := hI.2
    refine condT hS rfl ?_
    refine wp_skip ?_
    refine hK357 _ _ ?_
    refine wp_seq_k ?_; intro K358 hK358
    refine wp_block ?_
    refine wp_seq_k ?_; intro K359 hK359
    refine wp_region_lit ?_
    refine sA hS hR (Yld.move hS rfl) (by decide) ?_; clear hS; intro aa hS
    refine sA hS hR ((by first | exact Yld.indexL (sz := 5) _ hS rfl rfl Try.underlying24 info34 pkQ rfl rfl (by omega) | exact Yld.indexB (sz := 5) _ hS rfl rfl Try.underlying24 info34 rfl rfl (by omega) | exact Yld.indexSlice hS rfl rfl Try.underlying24 info34 (by omega) (by omega))) (by decide) ?_; clear hS; intro aa hS
    refine sA hS hR (Yld.loadAgg hS rfl Try.underlying34 rfl info34 (by first | exact Rds.cons (Rd.blk pkQ (by rfl)) (Rds.cons (Rd.blk pkQ (by rfl)) (Rds.cons (Rd.blk pkQ (by rfl)) (Rds.cons (Rd.blk pkQ (by rfl)) (Rds.cons (Rd.blk pkQ (by rfl)) (Rds.nil))))) | exact Rds.rec pkQ (by intro _; rfl) (by omega) | exact Rds.flat1 pkQ (by intro _; rfl) (by omega)) (by rfl)) (by decide) ?_; clear hS; intro aa hS
    obtain ⟨kj, kje⟩ : ∃ y : Ky, ks[i] = y := ⟨_, rfl⟩
    have hkj : WfK kj := by rw [← kje]; exact hkw _ (List.getElem_mem _)
    replace hS := hS.say (t := 47) (vK kj) rfl (by rw [kje])
    refine sB (Balloc hS hR info34 (by rfl) (by rfl) (by decide) ?_); clear hS hR; intro aa ww bb10 hS hR
    refine sA hS hR (Yld.assign hS rfl) (by decide) ?_; clear hS; intro aa hS
    refine sB (Bstore hS hR rfl rfl (by rfl) info34 (by rfl) pkQ (by rfl) (Nat.le_of_ble_eq_true rfl) ?_); clear hR; intro ww hR
    refine wpList_nil ?_
    refine hK359 _ _ ?_
    refine wp_region_lit ?_
    refine sA hS hR (Yld.move hS rfl) (by decide) ?_; clear hS; intro aa hS
    refine sA hS hR (Yld.loadAgg hS rfl Try.underlying34 rfl info34 (by first | exact Rds.cons (Rd.blk pkQ (by rfl)) (Rds.cons (Rd.blk pkQ (by rfl)) (Rds.cons (Rd.blk pkQ (by rfl)) (Rds.cons (Rd.blk pkQ (by rfl)) (Rds.cons (Rd.blk pkQ (by rfl)) (Rds.nil))))) | exact Rds.rec pkQ (by intro _; rfl) (by omega) | exact Rds.flat1 pkQ (by intro _; rfl) (by omega)) (by rfl)) (by decide) ?_; clear hS; intro aa hS
    refine sA hS hR (Yld.move hS rfl) (by decide) ?_; clear hS; intro aa hS
    refine sB (Bcall hS rfl Try.call12 (Put_ok (k := kj) (vx := (i : Int)) (hR.pk (r := trieA 69 79 3 _ _ _) pkQ) hkj) (by decide) ?_); clear hS; intro aa ww vv hS hp
    clear hR
    obtain ⟨rfl, hR⟩ := hp
    refine wpList_nil ?_
    refine hK358 _ _ ?_
    refine wp_region_lit ?_
    refine sA hS hR ((by first | exact Yld.add64 hS rfl rfl (by omega) | exact Yld.add hS rfl rfl)) (by decide) ?_; clear hS; intro aa hS
    refine sA hS hR (Yld.move hS rfl) (by decide) ?_; clear hS; intro aa hS
    refine wpList_nil ?_
    
    refine ⟨(i + 1, _), ?_, ?_, hS.le (Le.cons rfl (Le.nilapp (Le.cons rfl (Le.cons rfl (Le.cons rfl (Le.cons rfl (Le.cons rfl (Le.cons rfl (Le.nil _))))))))), hR.sub (Ex.take pkQ (Ex.nilapp exQ))⟩
    · dsimp only; exact ⟨by omega, hKI.put hkj⟩
    · dsimp only; omega
  · intro hg hS
    have hKI := hI.2
    have hKI40 := hI.1
    refine condF hS rfl ?_
    refine wp_exit ?_
    refine hK353 _ _ ?_
    refine wp_seq_k ?_; intro K360 hK360
    refine wp_region_lit ?_
    refine sA hS hR (Yld.move hS rfl) (by decide) ?_; clear hS; intro aa hS
    refine sB (Bcall hS rfl Try.call19 (Nodes_okA (hR.pk (r := trieA 69 79 3 _ _ _) pkQ)) (by decide) ?_); clear hS; intro aa ww vv hS hp
    clear hR
    obtain ⟨rfl, hR⟩ := hp
    refine sA hS hR (Yld.move hS rfl) (by decide) ?_; clear hS; intro aa hS
    refine sB (Bcall hS rfl Try.call18 (TKeys_ok (K := K) (hR.pk (r := trieA 69 79 3 _ _ _) pkQ)) (by decide) ?_); clear hS; intro aa ww vv hS hp
    clear hR
    obtain ⟨ra, ca, rfl, hR⟩ := hp
    obtain ⟨kys, hxkys⟩ : ∃ y, undK K (0, 0, 0, 0, 0) 0 = y := ⟨_, rfl⟩
    rw [hxkys] at hS hR
    have hAK : AllK K kys := by rw [← hxkys]; exact AllK.of hKI.wf
    have hkyl := hAK.le
    have hKl := hKI.le
    have hkyw : ∀ y ∈ kys, WfK y := fun y h => (hAK.has y h).2
    refine sA hS hR (Yld.assign hS rfl) (by decide) ?_; clear hS; intro aa hS
    refine sA hS hR (Yld.assign hS rfl) (by decide) ?_; clear hS; intro aa hS
    refine wpList_nil ?_
    refine hK360 _ _ ?_
    refine wp_seq_k ?_; intro K361 hK361
    refine wp_region_lit ?_
    refine sA hS hR (Yld.assign hS rfl) (by decide) ?_; clear hS; intro aa hS
    refine wpList_nil ?_
    refine hK361 _ _ ?_
    refine wp_seq_k ?_; intro K362 hK362
    refine wp_seq_k ?_; intro K363 hK363
    refine wp_region_lit ?_
    refine sA hS hR (Yld.move hS rfl) (by decide) ?_; clear hS; intro aa hS
    refine sA hS hR (Yld.move hS rfl) (by decide) ?_; clear hS; intro aa hS
    refine sA hS hR (Yld.len hS rfl Try.underlying22) (by decide) ?_; clear hS; intro aa hS
    refine sA hS hR (Yld.min hS rfl rfl) (by decide) ?_; clear hS; intro aa hS
    refine sA hS hR (Yld.sliceHi hS rfl rfl Try.underlying22 info31 (by omega) (by omega)) (by decide) ?_; clear hS; intro aa hS
    obtain ⟨m2, hm20, hm21⟩ : ∃ y : Nat, (Min.min (n2 : Int) 20).toNat = y ∧ y ≤ n2 ∧ y ≤ 20 := ⟨_, rfl, by omega, by omega⟩
    replace hS := hS.say (t := 61) (.slice q2 m2 c2) rfl (by rw [hm20])
    refine sB (Bcall hS rfl Try.call10 (Named_ok A2 (hR.pk (r := old W) pkQ) (m := m2) (by omega) (by omega)) (by decide) ?_); clear hS; intro aa ww vv hS hp
    clear hR
    obtain ⟨js, rj, rjc, rfl, hjl, hjw, hR⟩ := hp
    refine sA hS hR (Yld.len hS rfl Try.underlying24) (by decide) ?_; clear hS; intro aa hS
    refine sA hS hR (Yld.move hS rfl) (by decide) ?_; clear hS; intro aa hS
    refine wpList_nil ?_
    refine hK363 _ _ ?_
    refine wp_block ?_
    replace hR := hR.slsNil (T := 34) (sz := 5)
    have hK0 : K = K ++ neg [] := by simp
    rw [hK0] at hR
    replace hR := hR.pk (r := sls none 0 0 34 5 []) pkQ
    replace hR := hR.pk (r := trieA 69 79 3 b (K ++ neg []) 60) pkQ
    refine loopI (X := Nat × List Ky × Option Addr × Nat) [(5, _), (6, _), (7, _), (11, _), (12, _), (62, _), (63, _)] (fun x => [(13, .slice x.2.2.1 x.2.1.length x.2.2.2), (64, .int .i64 (x.1 : Int))]) (fun x => [trieA 69 79 3 b (K ++ neg x.2.1) 60, sls x.2.2.1 x.2.1.length x.2.2.2 34 5 (x.2.1.flatMap eK)]) _ (fun x => x.1 ≤ js.length ∧ KI (K ++ neg x.2.1) (ks.length + x.1)) (fun x => js.length - x.1) (0, [], none, 0) ⟨Nat.zero_le _, by simpa [neg] using hKI.mono hKI40⟩ (hS.le (Le.cons rfl (Le.cons rfl (Le.nilapp (Le.cons rfl (Le.cons rfl (Le.cons rfl (Le.cons rfl (Le.cons rfl (Le.cons rfl (Le.cons rfl (Le.nil _)))))))))))) hR ?_
    clear hS hR; rintro ⟨i2, ps, r0, c0⟩ aa ww hI hS hR; dsimp only [List.cons_append, List.nil_append] at hI hS hR
    have hKQ := hI.2
    have hQl0 := hKQ.le
    have hQl := hQl0
    rw [List.length_append, show (neg ps).length = ps.length from List.length_map _] at hQl
    refine wp_seq_k ?_; intro K365 hK365
    refine wp_region_lit ?_
    refine sA hS hR (Yld.lss hS rfl rfl) (by decide) ?_; clear hS; intro aa hS
    refine wpList_nil ?_
    refine hK365 _ _ ?_
    refine wp_seq_k ?_; intro K366 hK366
    refine hS.splitB (t := 65) rfl ?_ ?_ <;> clear hS
    · intro hg hS
      refine condT hS rfl ?_
      refine wp_skip ?_
      refine hK366 _ _ ?_
      refine wp_seq_k ?_; intro K367 hK367
      refine wp_block ?_
      refine wp_seq_k ?_; intro K368 hK368
      refine wp_region_lit ?_
      refine sA hS hR ((by first | exact Yld.indexL (sz := 5) _ hS rfl rfl Try.underlying24 info34 pkQ rfl rfl (by omega) | exact Yld.indexB (sz := 5) _ hS rfl rfl Try.underlying24 info34 rfl rfl (by omega) | exact Yld.indexSlice hS rfl rfl Try.underlying24 info34 (by omega) (by omega))) (by decide) ?_; clear hS; intro aa hS
      refine sA hS hR (Yld.loadAgg hS rfl Try.underlying34 rfl info34 (by first | exact Rds.cons (Rd.blk pkQ (by rfl)) (Rds.cons (Rd.blk pkQ (by rfl)) (Rds.cons (Rd.blk pkQ (by rfl)) (Rds.cons (Rd.blk pkQ (by rfl)) (Rds.cons (Rd.blk pkQ (by rfl)) (Rds.nil))))) | exact Rds.rec pkQ (by intro _; rfl) (by omega) | exact Rds.flat1 pkQ (by intro _; rfl) (by omega)) (by rfl)) (by decide) ?_; clear hS; intro aa hS
      obtain ⟨pj, pje⟩ : ∃ y : Ky, js[i2] = y := ⟨_, rfl⟩
      have hpj : WfK pj := by rw [← pje]; exact hjw _ (List.getElem_mem _)
      replace hS := hS.say (t := 67) (vK pj) rfl (by rw [pje])
      refine sB (Balloc hS hR info34 (by rfl) (by rfl) (by decide) ?_); clear hS hR; intro aa ww bb15 hS hR
      refine sB (Bstore hS hR rfl rfl (by rfl) info34 (by rfl) pkQ (by rfl) (Nat.le_of_ble_eq_true rfl) ?_); clear hR; intro ww hR
      refine wpList_nil ?_
      refine hK368 _ _ ?_
      refine wp_seq_k ?_; intro K369 hK369
      refine wp_region_lit ?_
      by_cases hn : has (K ++ neg ps) pj
      ·
        refine sA hS hR (Yld.move hS rfl) (by decide) ?_; clear hS; intro aa hS
        refine sA hS hR (Yld.loadAgg hS rfl Try.underlying34 rfl info34 (by first | exact Rds.cons (Rd.blk pkQ (by rfl)) (Rds.cons (Rd.blk pkQ (by rfl)) (Rds.cons (Rd.blk pkQ (by rfl)) (Rds.cons (Rd.blk pkQ (by rfl)) (Rds.cons (Rd.blk pkQ (by rfl)) (Rds.nil))))) | exact Rds.rec pkQ (by intro _; rfl) (by omega) | exact Rds.flat1 pkQ (by intro _; rfl) (by omega)) (by rfl)) (by decide) ?_; clear hS; intro aa hS
        refine sB (Bcall hS rfl Try.call12 (Put_ok (k := pj) (vx := -1) (hR.pk (r := trieA 69 79 3 _ _ _) pkQ) hpj) (by decide) ?_); clear hS; intro aa ww vv hS hp
        clear hR
        obtain ⟨rfl, hR⟩ := hp
        rw [putE_has hn] at hS; rw [putK_has hn] at hR
        refine sA hS hR (Yld.eql hS rfl rfl) (by decide) ?_; clear hS; intro aa hS
        replace hS := hS.sayB (t := 71) false rfl (by rfl)
        refine wpList_nil ?_
        refine hK369 _ _ ?_
        refine condF hS rfl ?_
        refine wp_skip ?_
        refine hK367 _ _ ?_
        refine wp_region_lit ?_
        refine sA hS hR ((by first | exact Yld.add64 hS rfl rfl (by omega) | exact Yld.add hS rfl rfl)) (by decide) ?_; clear hS; intro aa hS
        refine sA hS hR (Yld.move hS rfl) (by decide) ?_; clear hS; intro aa hS
        refine wpList_nil ?_
        
        refine ⟨(i2 + 1, _, _, _), ?_, ?_, hS.le (Le.cons rfl (Le.cons rfl (Le.nilapp (Le.cons rfl (Le.cons rfl (Le.cons rfl (Le.cons rfl (Le.cons rfl (Le.cons rfl (Le.cons rfl (Le.nil _))))))))))), hR.sub (Ex.take pkQ (Ex.take pkQ (Ex.nilapp exQ)))⟩
        · dsimp only; first | exact ⟨by omega, hKQ.mono (by omega)⟩ | exact ⟨by omega, by rw [← neg_snoc]; exact hKQ.snoc hpj hn⟩
        · dsimp only; omega
      ·
        refine sA hS hR (Yld.move hS rfl) (by decide) ?_; clear hS; intro aa hS
        refine sA hS hR (Yld.loadAgg hS rfl Try.underlying34 rfl info34 (by first | exact Rds.cons (Rd.blk pkQ (by rfl)) (Rds.cons (Rd.blk pkQ (by rfl)) (Rds.cons (Rd.blk pkQ (by rfl)) (Rds.cons (Rd.blk pkQ (by rfl)) (Rds.cons (Rd.blk pkQ (by rfl)) (Rds.nil))))) | exact Rds.rec pkQ (by intro _; rfl) (by omega) | exact Rds.flat1 pkQ (by intro _; rfl) (by omega)) (by rfl)) (by decide) ?_; clear hS; intro aa hS
        refine sB (Bcall hS rfl Try.call12 (Put_ok (k := pj) (vx := -1) (hR.pk (r := trieA 69 79 3 _ _ _) pkQ) hpj) (by decide) ?_); clear hS; intro aa ww vv hS hp
        clear hR
        obtain ⟨rfl, hR⟩ := hp
        rw [putE_new hn (by omega)] at hS; rw [putK_new hn (by omega), neg_snoc] at hR
        refine sA hS hR (Yld.eql hS rfl rfl) (by decide) ?_; clear hS; intro aa hS
        replace hS := hS.sayB (t := 71) true rfl (by rfl)
        refine wpList_nil ?_
        refine hK369 _ _ ?_
        refine condT hS rfl ?_
        refine wp_region_lit ?_
        refine sA hS hR (Yld.move hS rfl) (by decide) ?_; clear hS; intro aa hS
        refine sA hS hR (Yld.loadAgg hS rfl Try.underlying34 rfl info34 (by first | exact Rds.cons (Rd.blk pkQ (by rfl)) (Rds.cons (Rd.blk pkQ (by rfl)) (Rds.cons (Rd.blk pkQ (by rfl)) (Rds.cons (Rd.blk pkQ (by rfl)) (Rds.cons (Rd.blk pkQ (by rfl)) (Rds.nil))))) | exact Rds.rec pkQ (by intro _; rfl) (by omega) | exact Rds.flat1 pkQ (by intro _; rfl) (by omega)) (by rfl)) (by decide) ?_; clear hS; intro aa hS
        refine sB (BbuildSlice hS hR rfl (bls24_1_0 _ _ _ _ _) (by decide) ?_); clear hS hR; intro aa ww bb74 hS hR
        refine sB (BappendR (sz := 5) hS hR rfl rfl Try.underlying24 info34 rfl rfl (by rfl) pkQ (XC.one (pj) pkQ (by rfl) rfl) (by intro _; rfl) (by show (_ + _) * 16 ≤ _; first | omega | (simp only [List.length_take, List.length_append, List.length_drop, List.length_cons, List.length_nil, List.length_map]; omega)) (by first | omega | (simp only [List.length_take, List.length_append, List.length_drop, List.length_cons, List.length_nil, List.length_map]; omega)) (by first | rfl | (simp; done) | (simp; omega)) (by decide) ?_); clear hS hR; intro aa ww r75 c75 hS hR
        refine sA hS hR (Yld.assign hS rfl) (by decide) ?_; clear hS; intro aa hS
        refine wpList_nil ?_
        refine hK367 _ _ ?_
        refine wp_region_lit ?_
        refine sA hS hR ((by first | exact Yld.add64 hS rfl rfl (by omega) | exact Yld.add hS rfl rfl)) (by decide) ?_; clear hS; intro aa hS
        refine sA hS hR (Yld.move hS rfl) (by decide) ?_; clear hS; intro aa hS
        refine wpList_nil ?_
        
        refine ⟨(i2 + 1, _, _, _), ?_, ?_, hS.le (Le.cons rfl (Le.cons rfl (Le.nilapp (Le.cons rfl (Le.cons rfl (Le.cons rfl (Le.cons rfl (Le.cons rfl (Le.cons rfl (Le.cons rfl (Le.nil _))))))))))), hR.sub (Ex.take pkQ (Ex.take pkQ (Ex.nilapp exQ)))⟩
        · dsimp only; first | exact ⟨by omega, hKQ.mono (by omega)⟩ | exact ⟨by omega, by rw [← neg_snoc]; exact hKQ.snoc hpj hn⟩
        · dsimp only; omega
    · intro hg hS
      have hKP := hI.2
      have hPl0 := hKP.le
      have hPl := hPl0
      rw [List.length_append, show (neg ps).length = ps.length from List.length_map _] at hPl
      have hst := steps_bd (K := K ++ neg ps) hk hKP.wf
      have hsm2 := findV_some (K := K ++ neg ps) (k := k)
      have nk27 := n27 hst.2.2
      have hnle := nodes_le (K := K ++ neg ps)
      have hnmo := nodes_mono (K := K) (M := neg ps)
      have hpw : ∀ y ∈ ps, WfK y := fun y hy => hKP.wf (y, -1) (List.mem_append.2 (.inr (List.mem_map.2 ⟨y, hy, rfl⟩)))
      refine condF hS rfl ?_
      refine wp_exit ?_
      refine hK362 _ _ ?_
      refine wp_seq_k ?_; intro K370 hK370
      refine wp_region_lit ?_
      refine sA hS hR (Yld.move hS rfl) (by decide) ?_; clear hS; intro aa hS
      refine sA hS hR (Yld.loadAgg hS rfl Try.underlying34 rfl info34 (by first | exact Rds.cons (Rd.blk pkQ (by rfl)) (Rds.cons (Rd.blk pkQ (by rfl)) (Rds.cons (Rd.blk pkQ (by rfl)) (Rds.cons (Rd.blk pkQ (by rfl)) (Rds.cons (Rd.blk pkQ (by rfl)) (Rds.nil))))) | exact Rds.rec pkQ (by intro _; rfl) (by omega) | exact Rds.flat1 pkQ (by intro _; rfl) (by omega)) (by rfl)) (by decide) ?_; clear hS; intro aa hS
      refine sB (Bcall hS rfl Try.call16 (Get_ok (k := k) (hR.pk (r := trieA 69 79 3 _ _ _) pkQ) hk) (by decide) ?_); clear hS; intro aa ww vv hS hp
      clear hR
      obtain ⟨rfl, hR⟩ := hp
      refine sA hS hR (Yld.move hS rfl) (by decide) ?_; clear hS; intro aa hS
      refine sA hS hR (Yld.extract hS rfl rfl) (by decide) ?_; clear hS; intro aa hS
      refine sA hS hR (Yld.extract hS rfl rfl) (by decide) ?_; clear hS; intro aa hS
      refine sA hS hR (Yld.assign hS rfl) (by decide) ?_; clear hS; intro aa hS
      refine sA hS hR (Yld.assign hS rfl) (by decide) ?_; clear hS; intro aa hS
      refine wpList_nil ?_
      refine hK370 _ _ ?_
      refine wp_seq_k ?_; intro K371 hK371
      refine wp_seq_k ?_; intro K372 hK372
      refine wp_region_lit ?_
      refine sA hS hR (Yld.move hS rfl) (by decide) ?_; clear hS; intro aa hS
      refine sA hS hR (Yld.loadAgg hS rfl Try.underlying34 rfl info34 (by first | exact Rds.cons (Rd.blk pkQ (by rfl)) (Rds.cons (Rd.blk pkQ (by rfl)) (Rds.cons (Rd.blk pkQ (by rfl)) (Rds.cons (Rd.blk pkQ (by rfl)) (Rds.cons (Rd.blk pkQ (by rfl)) (Rds.nil))))) | exact Rds.rec pkQ (by intro _; rfl) (by omega) | exact Rds.flat1 pkQ (by intro _; rfl) (by omega)) (by rfl)) (by decide) ?_; clear hS; intro aa hS
      refine sB (Bcall hS rfl Try.call31 (TSteps_ok (k := k) (hR.pk (r := trieA 69 79 3 _ _ _) pkQ) hk) (by decide) ?_); clear hS; intro aa ww vv hS hp
      clear hR
      obtain ⟨rfl, hR⟩ := hp
      refine sA hS hR (Yld.assign hS rfl) (by decide) ?_; clear hS; intro aa hS
      refine wpList_nil ?_
      refine hK372 _ _ ?_
      refine wp_seq_k ?_; intro K373 hK373
      refine wp_region_lit ?_
      refine sA hS hR (Yld.move hS rfl) (by decide) ?_; clear hS; intro aa hS
      refine sA hS hR (Yld.lss hS rfl rfl) (by decide) ?_; clear hS; intro aa hS
      replace hS := hS.sayB (t := 87) false rfl (by exact decide_eq_false (by omega))
      refine sA hS hR (Yld.move hS rfl) (by decide) ?_; clear hS; intro aa hS
      refine sAg hS hR rfl rfl (Yld.move hS rfl) (by decide) ?_; clear hS; intro aa hS
      refine sAg hS hR rfl rfl (Yld.gtr hS rfl rfl) (by decide) ?_; clear hS; intro aa hS
      replace hS := hS.sayB (t := 90) false rfl (by exact decide_eq_false (by omega))
      refine sA hS hR (Yld.pickF hS rfl rfl) (by decide) ?_; clear hS; intro aa hS
      refine sA hS hR (Yld.move hS rfl) (by decide) ?_; clear hS; intro aa hS
      refine sAg hS hR rfl rfl (Yld.move hS rfl) (by decide) ?_; clear hS; intro aa hS
      refine sAg hS hR rfl rfl (Yld.eql hS rfl rfl) (by decide) ?_; clear hS; intro aa hS
      refine sAg hS hR rfl rfl (Yld.move hS rfl) (by decide) ?_; clear hS; intro aa hS
      refine sAg hS hR rfl rfl (Yld.neqB hS rfl rfl Try.underlying4) (by decide) ?_; clear hS; intro aa hS
      replace hS := hS.sayB (t := 96) false rfl (by rw [nk27]; simp)
      refine sA hS hR (Yld.pickF hS rfl rfl) (by decide) ?_; clear hS; intro aa hS
      refine sA hS hR (Yld.move hS rfl) (by decide) ?_; clear hS; intro aa hS
      refine sAg hS hR rfl rfl (Yld.move hS rfl) (by decide) ?_; clear hS; intro aa hS
      refine sBg hS rfl rfl (Bcall hS rfl Try.call19 (Nodes_okA (hR.pk (r := trieA 69 79 3 _ _ _) pkQ)) (by decide) ?_); clear hS; intro aa ww vv hS hp
      clear hR
      obtain ⟨rfl, hR⟩ := hp
      refine sAg hS hR rfl rfl (Yld.move hS rfl) (by decide) ?_; clear hS; intro aa hS
      refine sBg hS rfl rfl (Bcall hS rfl Try.call14 (TLen_ok (hR.pk (r := trieA 69 79 3 _ _ _) pkQ)) (by decide) ?_); clear hS; intro aa ww vv hS hp
      clear hR
      obtain ⟨rfl, hR⟩ := hp
      refine sAg hS hR rfl rfl ((by first | exact Yld.mul64 hS rfl rfl (by omega) | exact Yld.mul hS rfl rfl)) (by decide) ?_; clear hS; intro aa hS
      refine sAg hS hR rfl rfl ((by first | exact Yld.add64 hS rfl rfl (by omega) | exact Yld.add hS rfl rfl)) (by decide) ?_; clear hS; intro aa hS
      refine sAg hS hR rfl rfl (Yld.gtr hS rfl rfl) (by decide) ?_; clear hS; intro aa hS
      replace hS := hS.sayB (t := 105) false rfl (by exact decide_eq_false (by omega))
      refine sA hS hR (Yld.pickF hS rfl rfl) (by decide) ?_; clear hS; intro aa hS
      refine sA hS hR (Yld.move hS rfl) (by decide) ?_; clear hS; intro aa hS
      refine sAg hS hR rfl rfl (Yld.move hS rfl) (by decide) ?_; clear hS; intro aa hS
      refine sBg hS rfl rfl (Bcall hS rfl Try.call19 (Nodes_okA (hR.pk (r := trieA 69 79 3 _ _ _) pkQ)) (by decide) ?_); clear hS; intro aa ww vv hS hp
      clear hR
      obtain ⟨rfl, hR⟩ := hp
      refine sAg hS hR rfl rfl (Yld.move hS rfl) (by decide) ?_; clear hS; intro aa hS
      refine sAg hS hR rfl rfl (Yld.lss hS rfl rfl) (by decide) ?_; clear hS; intro aa hS
      replace hS := hS.sayB (t := 111) false rfl (by exact decide_eq_false (by omega))
      refine sA hS hR (Yld.pickF hS rfl rfl) (by decide) ?_; clear hS; intro aa hS
      refine wpList_nil ?_
      refine hK373 _ _ ?_
      refine condF hS rfl ?_
      refine wp_skip ?_
      refine hK371 _ _ ?_
      refine wp_seq_k ?_; intro K374 hK374
      refine wp_seq_k ?_; intro K375 hK375
      refine wp_region_lit ?_
      refine sA hS hR (Yld.move hS rfl) (by decide) ?_; clear hS; intro aa hS
      refine sA hS hR (Yld.len hS rfl Try.underlying24) (by decide) ?_; clear hS; intro aa hS
      refine sA hS hR (Yld.move hS rfl) (by decide) ?_; clear hS; intro aa hS
      refine wpList_nil ?_
      refine hK375 _ _ ?_
      refine wp_block ?_
      rw [show neg ps = neg (ps.take ps.length) from by rw [List.take_length]] at hR
      replace hR := hR.pk (r := trieA 69 79 3 b (K ++ neg (ps.take ps.length)) 60) pkQ
      refine loopI (X := Nat × Nat) [(7, _), (11, _), (12, _), (13, _), (114, _)] (fun x => [(115, .int .i64 (x.1 : Int))]) (fun x => [trieA 69 79 3 b (K ++ neg (ps.take x.2)) 60]) _ (fun x => x.1 + x.2 = ps.length) (fun x => x.2) (0, ps.length) (Nat.zero_add _) (hS.le (Le.cons rfl (Le.nilapp (Le.cons rfl (Le.cons rfl (Le.cons rfl (Le.cons rfl (Le.cons rfl (Le.nil _))))))))) hR ?_
      clear hS hR; rintro ⟨i3, j0⟩ aa ww hI hS hR; dsimp only [List.cons_append, List.nil_append] at hI hS hR
      have hIj := hI
      refine wp_seq_k ?_; intro K377 hK377
      refine wp_region_lit ?_
      refine sA hS hR (Yld.lss hS rfl rfl) (by decide) ?_; clear hS; intro aa hS
      refine wpList_nil ?_
      refine hK377 _ _ ?_
      refine wp_seq_k ?_; intro K378 hK378
      refine hS.splitB (t := 116) rfl ?_ ?_ <;> clear hS
      · intro hg hS
        obtain ⟨j, rfl⟩ : ∃ y, j0 = y + 1 := ⟨j0 - 1, by omega⟩
        obtain ⟨hfo, hoo⟩ := hKP.out (j := j) (by omega)
        refine condT hS rfl ?_
        refine wp_skip ?_
        refine hK378 _ _ ?_
        refine wp_seq_k ?_; intro K379 hK379
        refine wp_block ?_
        refine wp_seq_k ?_; intro K380 hK380
        refine wp_region_lit ?_
        refine sA hS hR (Yld.move hS rfl) (by decide) ?_; clear hS; intro aa hS
        refine sA hS hR (Yld.assign hS rfl) (by decide) ?_; clear hS; intro aa hS
        refine wpList_nil ?_
        refine hK380 _ _ ?_
        refine wp_seq_k ?_; intro K381 hK381
        refine wp_region_lit ?_
        refine sA hS hR (Yld.move hS rfl) (by decide) ?_; clear hS; intro aa hS
        refine sA hS hR (Yld.move hS rfl) (by decide) ?_; clear hS; intro aa hS
        refine sA hS hR (Yld.move hS rfl) (by decide) ?_; clear hS; intro aa hS
        refine sA hS hR (Yld.len hS rfl Try.underlying24) (by decide) ?_; clear hS; intro aa hS
        refine sA hS hR ((by first | exact Yld.sub64 hS rfl rfl (by omega) | exact Yld.sub hS rfl rfl)) (by decide) ?_; clear hS; intro aa hS
        refine sA hS hR (Yld.move hS rfl) (by decide) ?_; clear hS; intro aa hS
        refine sA hS hR ((by first | exact Yld.sub64 hS rfl rfl (by omega) | exact Yld.sub hS rfl rfl)) (by decide) ?_; clear hS; intro aa hS
        replace hS := hS.say (t := 125) (.int .i64 (j : Int)) rfl (by rw [show (ps.length : Int) - 1 - (i3 : Int) = (j : Int) from by omega])
        refine sA hS hR ((by first | exact Yld.indexL (sz := 5) (j) hS rfl rfl Try.underlying24 info34 pkQ rfl (by first | rfl | omega) (by omega) | exact Yld.indexB (sz := 5) (j) hS rfl rfl Try.underlying24 info34 rfl (by first | rfl | omega) (by omega))) (by decide) ?_; clear hS; intro aa hS
        refine sA hS hR (Yld.loadAgg hS rfl Try.underlying34 rfl info34 (by first | exact Rds.cons (Rd.blk pkQ (by rfl)) (Rds.cons (Rd.blk pkQ (by rfl)) (Rds.cons (Rd.blk pkQ (by rfl)) (Rds.cons (Rd.blk pkQ (by rfl)) (Rds.cons (Rd.blk pkQ (by rfl)) (Rds.nil))))) | exact Rds.rec pkQ (by intro _; rfl) (by omega) | exact Rds.flat1 pkQ (by intro _; rfl) (by omega)) (by rfl)) (by decide) ?_; clear hS; intro aa hS
        obtain ⟨oj, oje⟩ : ∃ y : Ky, ps[j] = y := ⟨_, rfl⟩
        have hoj : WfK oj := by rw [← oje]; exact hpw _ (List.getElem_mem _)
        replace hS := hS.say (t := 127) (vK oj) rfl (by rw [oje])
        rw [oje] at hfo hoo
        refine sB (Bcall hS rfl Try.call13 (Out_ok (k := oj) (hR.pk (r := trieA 69 79 3 _ _ _) pkQ) hoj) (by decide) ?_); clear hS; intro aa ww vv hS hp
        clear hR
        obtain ⟨rfl, hR⟩ := hp
        rw [hfo] at hS; dsimp only [Option.getD, Option.isSome] at hS
        rw [if_pos rfl] at hS
        rw [hoo] at hR
        refine sA hS hR (Yld.move hS rfl) (by decide) ?_; clear hS; intro aa hS
        refine sA hS hR (Yld.extract hS rfl rfl) (by decide) ?_; clear hS; intro aa hS
        refine sA hS hR (Yld.extract hS rfl rfl) (by decide) ?_; clear hS; intro aa hS
        refine sA hS hR (Yld.assign hS rfl) (by decide) ?_; clear hS; intro aa hS
        refine sA hS hR (Yld.assign hS rfl) (by decide) ?_; clear hS; intro aa hS
        refine wpList_nil ?_
        refine hK381 _ _ ?_
        refine wp_seq_k ?_; intro K382 hK382
        refine wp_region_lit ?_
        refine sA hS hR (Yld.move hS rfl) (by decide) ?_; clear hS; intro aa hS
        refine sA hS hR (Yld.neq hS rfl rfl) (by decide) ?_; clear hS; intro aa hS
        replace hS := hS.sayB (t := 132) false rfl (by rfl)
        refine sA hS hR (Yld.move hS rfl) (by decide) ?_; clear hS; intro aa hS
        refine sAg hS hR rfl rfl (Yld.move hS rfl) (by decide) ?_; clear hS; intro aa hS
        refine sAg hS hR rfl rfl (Yld.neq hS rfl rfl) (by decide) ?_; clear hS; intro aa hS
        replace hS := hS.sayB (t := 135) false rfl (by rfl)
        refine sA hS hR (Yld.pickF hS rfl rfl) (by decide) ?_; clear hS; intro aa hS
        refine wpList_nil ?_
        refine hK382 _ _ ?_
        refine condF hS rfl ?_
        refine wp_skip ?_
        refine hK379 _ _ ?_
        refine wp_region_lit ?_
        refine sA hS hR ((by first | exact Yld.add64 hS rfl rfl (by omega) | exact Yld.add hS rfl rfl)) (by decide) ?_; clear hS; intro aa hS
        refine sA hS hR (Yld.move hS rfl) (by decide) ?_; clear hS; intro aa hS
        refine wpList_nil ?_
        
        refine ⟨(i3 + 1, j), ?_, ?_, hS.le (Le.cons rfl (Le.nilapp (Le.cons rfl (Le.cons rfl (Le.cons rfl (Le.cons rfl (Le.cons rfl (Le.nil _)))))))), hR.sub (Ex.take pkQ (Ex.nilapp exQ))⟩
        · dsimp only; omega
        · dsimp only; omega
      · intro hg hS
        obtain rfl : j0 = 0 := by omega
        rw [List.take_zero, show neg [] = [] from rfl, List.append_nil] at hR
        refine condF hS rfl ?_
        refine wp_exit ?_
        refine hK374 _ _ ?_
        refine wp_seq_k ?_; intro K383 hK383
        refine wp_seq_k ?_; intro K384 hK384
        refine wp_region_lit ?_
        refine sA hS hR (Yld.move hS rfl) (by decide) ?_; clear hS; intro aa hS
        refine sB (Bcall hS rfl Try.call19 (Nodes_okA (hR.pk (r := trieA 69 79 3 _ _ _) pkQ)) (by decide) ?_); clear hS; intro aa ww vv hS hp
        clear hR
        obtain ⟨rfl, hR⟩ := hp
        refine sA hS hR (Yld.move hS rfl) (by decide) ?_; clear hS; intro aa hS
        refine sA hS hR (Yld.neq hS rfl rfl) (by decide) ?_; clear hS; intro aa hS
        replace hS := hS.sayB (t := 141) false rfl (by simp)
        refine sA hS hR (Yld.move hS rfl) (by decide) ?_; clear hS; intro aa hS
        refine sAg hS hR rfl rfl (Yld.move hS rfl) (by decide) ?_; clear hS; intro aa hS
        refine sBg hS rfl rfl (Bcall hS rfl Try.call18 (TKeys_ok (K := K) (hR.pk (r := trieA 69 79 3 _ _ _) pkQ)) (by decide) ?_); clear hS; intro aa ww vv hS hp
        clear hR
        obtain ⟨rb, cb, rfl, hR⟩ := hp
        rw [hxkys] at hS hR
        refine sAg hS hR rfl rfl (Yld.move hS rfl) (by decide) ?_; clear hS; intro aa hS
        refine sBg hS rfl rfl (Bcall hS rfl Try.call24 (sameKeys_ok (xs := kys) (ys := kys) (q1 := rb) (q2 := ra) (c1 := cb) (c2 := ca) ((hR.pk (r := sls ra _ _ _ _ _) pkQ).pk (r := sls rb _ _ _ _ _) pkQ) (by omega) (by omega)) (by decide) ?_); clear hS; intro aa ww vv hS hp
        clear hR
        obtain ⟨rfl, hR⟩ := hp
        rw [decide_eq_true rfl] at hS
        refine sAg hS hR rfl rfl (Yld.not hS rfl) (by decide) ?_; clear hS; intro aa hS
        replace hS := hS.sayB (t := 147) false rfl (by rfl)
        refine sA hS hR (Yld.pickF hS rfl rfl) (by decide) ?_; clear hS; intro aa hS
        refine wpList_nil ?_
        refine hK384 _ _ ?_
        refine condF hS rfl ?_
        refine wp_skip ?_
        refine hK383 _ _ ?_
        refine wp_seq_k ?_; intro K385 hK385
        refine wp_seq_k ?_; intro K386 hK386
        refine wp_region_lit ?_
        refine sA hS hR (Yld.move hS rfl) (by decide) ?_; clear hS; intro aa hS
        refine sA hS hR (Yld.len hS rfl Try.underlying24) (by decide) ?_; clear hS; intro aa hS
        refine sA hS hR (Yld.move hS rfl) (by decide) ?_; clear hS; intro aa hS
        refine wpList_nil ?_
        refine hK386 _ _ ?_
        refine wp_block ?_
        have hK0 : K = outAll K (kys.take 0) := by rw [List.take_zero, outAll_nil]
        rw [hK0] at hR
        replace hR := hR.pk (r := trieA 69 79 3 b (outAll K (kys.take 0)) 60) pkQ
        refine loopI (X := Nat) [(7, _), (149, _), (150, _)] (fun x => [(151, .int .i64 (x : Int))]) (fun x => [trieA 69 79 3 b (outAll K (kys.take x)) 60]) _ (fun x => x ≤ kys.length) (fun x => kys.length - x) 0 (Nat.zero_le _) (hS.le (Le.cons rfl (Le.nilapp (Le.cons rfl (Le.cons rfl (Le.cons rfl (Le.nil _))))))) hR ?_
        clear hS hR; rintro i4 aa ww hI hS hR; dsimp only [List.cons_append, List.nil_append] at hI hS hR
        refine wp_seq_k ?_; intro K388 hK388
        refine wp_region_lit ?_
        refine sA hS hR (Yld.lss hS rfl rfl) (by decide) ?_; clear hS; intro aa hS
        refine wpList_nil ?_
        refine hK388 _ _ ?_
        refine wp_seq_k ?_; intro K389 hK389
        refine hS.splitB (t := 152) rfl ?_ ?_ <;> clear hS
        · intro hg hS
          have hhu := hAK.left (i := i4) (by omega)
          have hsn := List.take_succ_eq_append_getElem (l := kys) (i := i4) (by omega)
          refine condT hS rfl ?_
          refine wp_skip ?_
          refine hK389 _ _ ?_
          refine wp_seq_k ?_; intro K390 hK390
          refine wp_block ?_
          refine wp_seq_k ?_; intro K391 hK391
          refine wp_region_lit ?_
          refine sA hS hR ((by first | exact Yld.indexL (sz := 5) _ hS rfl rfl Try.underlying24 info34 pkQ rfl rfl (by omega) | exact Yld.indexB (sz := 5) _ hS rfl rfl Try.underlying24 info34 rfl rfl (by omega) | exact Yld.indexSlice hS rfl rfl Try.underlying24 info34 (by omega) (by omega))) (by decide) ?_; clear hS; intro aa hS
          refine sA hS hR (Yld.loadAgg hS rfl Try.underlying34 rfl info34 (by first | exact Rds.cons (Rd.blk pkQ (by rfl)) (Rds.cons (Rd.blk pkQ (by rfl)) (Rds.cons (Rd.blk pkQ (by rfl)) (Rds.cons (Rd.blk pkQ (by rfl)) (Rds.cons (Rd.blk pkQ (by rfl)) (Rds.nil))))) | exact Rds.rec pkQ (by intro _; rfl) (by omega) | exact Rds.flat1 pkQ (by intro _; rfl) (by omega)) (by rfl)) (by decide) ?_; clear hS; intro aa hS
          obtain ⟨uj, uje⟩ : ∃ y : Ky, kys[i4] = y := ⟨_, rfl⟩
          have huj : WfK uj := by rw [← uje]; exact hkyw _ (List.getElem_mem _)
          replace hS := hS.say (t := 154) (vK uj) rfl (by rw [uje])
          rw [uje] at hhu hsn
          refine sB (Balloc hS hR info34 (by rfl) (by rfl) (by decide) ?_); clear hS hR; intro aa ww bb23 hS hR
          refine sB (Bstore hS hR rfl rfl (by rfl) info34 (by rfl) pkQ (by rfl) (Nat.le_of_ble_eq_true rfl) ?_); clear hR; intro ww hR
          refine wpList_nil ?_
          refine hK391 _ _ ?_
          refine wp_seq_k ?_; intro K392 hK392
          refine wp_region_lit ?_
          refine sA hS hR (Yld.move hS rfl) (by decide) ?_; clear hS; intro aa hS
          refine sA hS hR (Yld.loadAgg hS rfl Try.underlying34 rfl info34 (by first | exact Rds.cons (Rd.blk pkQ (by rfl)) (Rds.cons (Rd.blk pkQ (by rfl)) (Rds.cons (Rd.blk pkQ (by rfl)) (Rds.cons (Rd.blk pkQ (by rfl)) (Rds.cons (Rd.blk pkQ (by rfl)) (Rds.nil))))) | exact Rds.rec pkQ (by intro _; rfl) (by omega) | exact Rds.flat1 pkQ (by intro _; rfl) (by omega)) (by rfl)) (by decide) ?_; clear hS; intro aa hS
          refine sB (Bcall hS rfl Try.call13 (Out_ok (k := uj) (hR.pk (r := trieA 69 79 3 _ _ _) pkQ) huj) (by decide) ?_); clear hS; intro aa ww vv hS hp
          clear hR
          obtain ⟨rfl, hR⟩ := hp
          obtain ⟨v0, hv0⟩ := Option.isSome_iff_exists.1 (findV_some.2 hhu)
          rw [hv0] at hS; dsimp only [Option.getD, Option.isSome] at hS
          rw [if_pos rfl] at hS
          rw [outAll_snoc, ← hsn] at hR
          refine sA hS hR (Yld.move hS rfl) (by decide) ?_; clear hS; intro aa hS
          refine sA hS hR (Yld.extract hS rfl rfl) (by decide) ?_; clear hS; intro aa hS
          refine sA hS hR (Yld.extract hS rfl rfl) (by decide) ?_; clear hS; intro aa hS
          refine sA hS hR (Yld.assign hS rfl) (by decide) ?_; clear hS; intro aa hS
          refine sA hS hR (Yld.assign hS rfl) (by decide) ?_; clear hS; intro aa hS
          refine wpList_nil ?_
          refine hK392 _ _ ?_
          refine wp_seq_k ?_; intro K393 hK393
          refine wp_region_lit ?_
          refine sA hS hR (Yld.move hS rfl) (by decide) ?_; clear hS; intro aa hS
          refine sA hS hR (Yld.neq hS rfl rfl) (by decide) ?_; clear hS; intro aa hS
          replace hS := hS.sayB (t := 162) false rfl (by rfl)
          refine wpList_nil ?_
          refine hK393 _ _ ?_
          refine condF hS rfl ?_
          refine wp_skip ?_
          refine hK390 _ _ ?_
          refine wp_region_lit ?_
          refine sA hS hR ((by first | exact Yld.add64 hS rfl rfl (by omega) | exact Yld.add hS rfl rfl)) (by decide) ?_; clear hS; intro aa hS
          refine sA hS hR (Yld.move hS rfl) (by decide) ?_; clear hS; intro aa hS
          refine wpList_nil ?_
          
          refine ⟨i4 + 1, ?_, ?_, hS.le (Le.cons rfl (Le.nilapp (Le.cons rfl (Le.cons rfl (Le.cons rfl (Le.nil _)))))), hR.sub (Ex.take pkQ (Ex.nilapp exQ))⟩
          · omega
          · omega
        · intro hg hS
          obtain rfl : i4 = kys.length := by omega
          rw [List.take_length, outAll_all (fun e he => hAK.all e he)] at hR
          refine condF hS rfl ?_
          refine wp_exit ?_
          refine hK385 _ _ ?_
          refine wp_seq_k ?_; intro K394 hK394
          refine wp_region_lit ?_
          refine sA hS hR (Yld.move hS rfl) (by decide) ?_; clear hS; intro aa hS
          refine sB (Bcall hS rfl Try.call19 (Nodes_okA (hR.pk (r := trieA 69 79 3 _ _ _) pkQ)) (by decide) ?_); clear hS; intro aa ww vv hS hp
          clear hR
          obtain ⟨rfl, hR⟩ := hp
          refine sA hS hR (Yld.eql hS rfl rfl) (by decide) ?_; clear hS; intro aa hS
          replace hS := hS.sayB (t := 166) true rfl (by simp [nodes_nil])
          refine sA hS hR (Yld.move hS rfl) (by decide) ?_; clear hS; intro aa hS
          refine sAg hS hR rfl rfl (Yld.move hS rfl) (by decide) ?_; clear hS; intro aa hS
          refine sBg hS rfl rfl (Bcall hS rfl Try.call14 (TLen_ok (hR.pk (r := trieA 69 79 3 _ _ _) pkQ)) (by decide) ?_); clear hS; intro aa ww vv hS hp
          clear hR
          obtain ⟨rfl, hR⟩ := hp
          refine sAg hS hR rfl rfl (Yld.eql hS rfl rfl) (by decide) ?_; clear hS; intro aa hS
          replace hS := hS.sayB (t := 170) true rfl (by rfl)
          refine sA hS hR (Yld.pickT hS rfl rfl) (by decide) ?_; clear hS; intro aa hS
          refine sA hS hR (Yld.move hS rfl) (by decide) ?_; clear hS; intro aa hS
          refine sBg hS rfl rfl (Bcall hS rfl Try.call17 (awake_ok hR) (by decide) ?_); clear hS; intro aa ww vv hS hp
          clear hR
          obtain ⟨rfl, hR⟩ := hp
          refine sA hS hR (Yld.pickT hS rfl rfl) (by decide) ?_; clear hS; intro aa hS
          refine sA hS hR (Yld.assign hS rfl) (by decide) ?_; clear hS; intro aa hS
          refine wpList_nil ?_
          refine hK394 _ _ ?_
          refine wp_ret ?_
          repeat (first | with_reducible refine thenR ?_ | with_reducible refine blockR ?_ | with_reducible refine scopeR ?_)
          refine ret1 (fn := Try.f9) (e := .ret) (.inl rfl) Try.results9 hS hR ⟨_, (.tmp rfl), ?_⟩
          exact ⟨rfl, (hR.sub exQ)⟩
end Go.Proofs.Ytmcfmhiadlkglaa.Sx
