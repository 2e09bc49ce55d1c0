/-
  
-/
import Derived.Test.YtmcfmhiadlkglaaTrK
import Derived.Test.YtmcfmhiadlkglaaTrie14
namespace Go.Proofs.Ytmcfmhiadlkglaa.Sx
open Go
set_option linter.unusedVariables false
set_option linter.unusedSimpArgs false



set_option maxHeartbeats 2000000 in
set_option maxRecDepth 20000 in
theorem TrieOrder_ok {W : World} {q : Option Addr} {n c : Nat} {xs : List (List Int)} {t : Int} (A1 : ArgS W [.u32] q n c xs) {l : List HP} {w : World} (hR : Sep (old W :: l) w) (ht : 0 ≤ t ∧ t ≤ 255) : CallR Try.prog 5 [.slice q n c, .int .u8 t] w (fun v w' => v = .bool true ∧ Sep (old W :: l) w') := by
  refine enter Try.func5 rfl Try.ntmps5 (Nat.le_of_ble_eq_true rfl) ?_; intro aa hS
  have hcap := A1.cap
  obtain ⟨tn, rfl⟩ : ∃ y : Nat, t = (y : Int) := ⟨t.toNat, by omega⟩
  refine wp_seq_k ?_; intro K395 hK395
  refine wp_region_lit ?_
  refine sA hS hR (Yld.assign hS rfl) (by decide) ?_; clear hS; intro aa hS
  refine wpList_nil ?_
  refine hK395 _ _ ?_
  refine wp_seq_k ?_; intro K396 hK396
  refine wp_region_lit ?_
  refine sA hS hR (Yld.move hS rfl) (by decide) ?_; clear hS; intro aa hS
  refine sA hS hR (Yld.move hS rfl) (by decide) ?_; clear hS; intro aa hS
  refine sA hS hR (Yld.len hS rfl Try.underlying22) (by decide) ?_; clear hS; intro aa hS
  refine sA hS hR (Yld.min hS rfl rfl) (by decide) ?_; clear hS; intro aa hS
  refine sA hS hR (Yld.sliceHi hS rfl rfl Try.underlying22 info31 (by omega) (by omega)) (by decide) ?_; clear hS; intro aa hS
  obtain ⟨mm, hmm0, hmm1⟩ : ∃ y : Nat, (Min.min (n : Int) 40).toNat = y ∧ y ≤ n ∧ y ≤ 40 := ⟨_, rfl, by omega, by omega⟩
  replace hS := hS.say (t := 19) (.slice q mm c) rfl (by rw [hmm0])
  refine sB (Bcall hS rfl Try.call10 (Named_ok A1 (hR.pk (r := old W) pkQ) (m := mm) (by omega) (by omega)) (by decide) ?_); clear hS; intro aa ww vv hS hp
  clear hR
  obtain ⟨ks, rk, rkc, rfl, hkl, hkw, hR⟩ := hp
  refine sA hS hR (Yld.assign hS rfl) (by decide) ?_; clear hS; intro aa hS
  refine wpList_nil ?_
  refine hK396 _ _ ?_
  refine wp_seq_k ?_; intro K397 hK397
  refine wp_region_lit ?_
  refine sB (Bcall hS rfl Try.call11 (TNew_ok hR (by omega)) (by decide) ?_); clear hS; intro aa ww vv hS hp
  clear hR
  obtain ⟨b1, rfl, hR⟩ := hp
  refine sA hS hR (Yld.move hS rfl) (by decide) ?_; clear hS; intro aa hS
  refine sA hS hR (Yld.extract hS rfl rfl) (by decide) ?_; clear hS; intro aa hS
  refine sA hS hR (Yld.extract hS rfl rfl) (by decide) ?_; clear hS; intro aa hS
  refine sA hS hR (Yld.assign hS rfl) (by decide) ?_; clear hS; intro aa hS
  refine sA hS hR (Yld.assign hS rfl) (by decide) ?_; clear hS; intro aa hS
  refine wpList_nil ?_
  refine hK397 _ _ ?_
  refine wp_seq_k ?_; intro K398 hK398
  refine wp_region_lit ?_
  refine sB (Bcall hS rfl Try.call11 (TNew_ok hR (by omega)) (by decide) ?_); clear hS; intro aa ww vv hS hp
  clear hR
  obtain ⟨b2, rfl, hR⟩ := hp
  refine sA hS hR (Yld.move hS rfl) (by decide) ?_; clear hS; intro aa hS
  refine sA hS hR (Yld.extract hS rfl rfl) (by decide) ?_; clear hS; intro aa hS
  refine sA hS hR (Yld.extract hS rfl rfl) (by decide) ?_; clear hS; intro aa hS
  refine sA hS hR (Yld.assign hS rfl) (by decide) ?_; clear hS; intro aa hS
  refine sA hS hR (Yld.assign hS rfl) (by decide) ?_; clear hS; intro aa hS
  refine wpList_nil ?_
  refine hK398 _ _ ?_
  refine wp_seq_k ?_; intro K399 hK399
  refine wp_seq_k ?_; intro K400 hK400
  refine wp_region_lit ?_
  refine sA hS hR (Yld.move hS rfl) (by decide) ?_; clear hS; intro aa hS
  refine sA hS hR (Yld.move hS rfl) (by decide) ?_; clear hS; intro aa hS
  refine sA hS hR ((by first | exact Yld.add64 hS rfl rfl (by omega) | exact Yld.add hS rfl rfl)) (by decide) ?_; clear hS; intro aa hS
  refine sA hS hR (Yld.neq hS rfl rfl) (by decide) ?_; clear hS; intro aa hS
  replace hS := hS.sayB (t := 32) false rfl (by simp)
  refine sA hS hR (Yld.move hS rfl) (by decide) ?_; clear hS; intro aa hS
  refine sAg hS hR rfl rfl (Yld.move hS rfl) (by decide) ?_; clear hS; intro aa hS
  refine sAg hS hR rfl rfl (Yld.eqlNil hS rfl rfl Try.underlying26) (by decide) ?_; clear hS; intro aa hS
  replace hS := hS.sayB (t := 35) false rfl (by rfl)
  refine sA hS hR (Yld.pickF hS rfl rfl) (by decide) ?_; clear hS; intro aa hS
  refine sA hS hR (Yld.move hS rfl) (by decide) ?_; clear hS; intro aa hS
  refine sAg hS hR rfl rfl (Yld.move hS rfl) (by decide) ?_; clear hS; intro aa hS
  refine sAg hS hR rfl rfl (Yld.eqlNil hS rfl rfl Try.underlying26) (by decide) ?_; clear hS; intro aa hS
  replace hS := hS.sayB (t := 39) false rfl (by rfl)
  refine sA hS hR (Yld.pickF hS rfl rfl) (by decide) ?_; clear hS; intro aa hS
  refine wpList_nil ?_
  refine hK400 _ _ ?_
  refine condF hS rfl ?_
  refine wp_skip ?_
  refine hK399 _ _ ?_
  refine wp_seq_k ?_; intro K401 hK401
  refine wp_seq_k ?_; intro K402 hK402
  refine wp_region_lit ?_
  refine sA hS hR (Yld.move hS rfl) (by decide) ?_; clear hS; intro aa hS
  refine sA hS hR (Yld.len hS rfl Try.underlying24) (by decide) ?_; clear hS; intro aa hS
  refine sA hS hR (Yld.move hS rfl) (by decide) ?_; clear hS; intro aa hS
  refine wpList_nil ?_
  refine hK402 _ _ ?_
  refine wp_block ?_
  replace hR := hR.pk (r := trieA 69 79 3 b2 [] 40) pkQ
  replace hR := hR.pk (r := trieA 69 79 3 b1 [] 40) pkQ
  refine loopI (X := Nat × List (Ky × Int) × List (Ky × Int)) [(1, _), (4, _), (5, _), (6, _), (8, _), (42, _)] (fun x => [(43, .int .i64 (x.1 : Int))]) (fun x => [trieA 69 79 3 b1 x.2.1 40, trieA 69 79 3 b2 x.2.2 40]) _ (fun x => x.1 ≤ ks.length ∧ AllPut ks (fun j => j) x.2.1 x.1 ∧ AllPut ks (fun j => (ks.length - 1 - j + tn) % ks.length) x.2.2 x.1) (fun x => ks.length - x.1) (0, [], []) ⟨Nat.zero_le _, AllPut.nil, AllPut.nil⟩ (hS.le (Le.cons rfl (Le.nilapp (Le.cons rfl (Le.cons rfl (Le.cons rfl (Le.cons rfl (Le.cons rfl (Le.cons rfl (Le.nil _)))))))))) hR ?_
  clear hS hR; rintro ⟨i, K, N⟩ aa ww hI hS hR; dsimp only [List.cons_append, List.nil_append] at hI hS hR
  refine wp_seq_k ?_; intro K404 hK404
  refine wp_region_lit ?_
  refine sA hS hR (Yld.lss hS rfl rfl) (by decide) ?_; clear hS; intro aa hS
  refine wpList_nil ?_
  refine hK404 _ _ ?_
  refine wp_seq_k ?_; intro K405 hK405
  refine hS.splitB (t := 44) rfl ?_ ?_ <;> clear hS
  · intro hg hS
    have hP1 := hI.2.1
    have hP2 := hI.2.2
    refine condT hS rfl ?_
    refine wp_skip ?_
    refine hK405 _ _ ?_
    refine wp_seq_k ?_; intro K406 hK406
    refine wp_block ?_
    refine wp_seq_k ?_; intro K407 hK407
    refine wp_region_lit ?_
    refine sA hS hR (Yld.move hS rfl) (by decide) ?_; clear hS; intro aa hS
    refine sA hS hR (Yld.assign hS rfl) (by decide) ?_; clear hS; intro aa hS
    refine wpList_nil ?_
    refine hK407 _ _ ?_
    refine wp_seq_k ?_; intro K408 hK408
    refine wp_region_lit ?_
    refine sA hS hR (Yld.move hS rfl) (by decide) ?_; clear hS; intro aa hS
    refine sA hS hR (Yld.move hS rfl) (by decide) ?_; clear hS; intro aa hS
    refine sA hS hR (Yld.move hS rfl) (by decide) ?_; clear hS; intro aa hS
    refine sA hS hR ((by first | exact Yld.indexL (sz := 5) _ hS rfl rfl Try.underlying24 info34 pkQ rfl rfl (by omega) | exact Yld.indexB (sz := 5) _ hS rfl rfl Try.underlying24 info34 rfl rfl (by omega) | exact Yld.indexSlice hS rfl rfl Try.underlying24 info34 (by omega) (by omega))) (by decide) ?_; clear hS; intro aa hS
    refine sA hS hR (Yld.loadAgg hS rfl Try.underlying34 rfl info34 (by first | exact Rds.cons (Rd.blk pkQ (by rfl)) (Rds.cons (Rd.blk pkQ (by rfl)) (Rds.cons (Rd.blk pkQ (by rfl)) (Rds.cons (Rd.blk pkQ (by rfl)) (Rds.cons (Rd.blk pkQ (by rfl)) (Rds.nil))))) | exact Rds.rec pkQ (by intro _; rfl) (by omega) | exact Rds.flat1 pkQ (by intro _; rfl) (by omega)) (by rfl)) (by decide) ?_; clear hS; intro aa hS
    obtain ⟨kj, kje⟩ : ∃ y : Ky, ks[i] = y := ⟨_, rfl⟩
    have hkj : WfK kj := by rw [← kje]; exact hkw _ (List.getElem_mem _)
    replace hS := hS.say (t := 50) (vK kj) rfl (by rw [kje])
    refine sB (Bcall hS rfl Try.call12 (Put_ok (k := kj) (vx := 1) (hR.pk (r := trieA 69 79 3 b1 _ _) pkQ) hkj) (by decide) ?_); clear hS; intro aa ww vv hS hp
    clear hR
    obtain ⟨rfl, hR⟩ := hp
    refine wpList_nil ?_
    refine hK408 _ _ ?_
    refine wp_region_lit ?_
    refine sA hS hR (Yld.move hS rfl) (by decide) ?_; clear hS; intro aa hS
    refine sA hS hR (Yld.move hS rfl) (by decide) ?_; clear hS; intro aa hS
    refine sA hS hR (Yld.move hS rfl) (by decide) ?_; clear hS; intro aa hS
    refine sA hS hR (Yld.len hS rfl Try.underlying24) (by decide) ?_; clear hS; intro aa hS
    refine sA hS hR ((by first | exact Yld.sub64 hS rfl rfl (by omega) | exact Yld.sub hS rfl rfl)) (by decide) ?_; clear hS; intro aa hS
    refine sA hS hR (Yld.move hS rfl) (by decide) ?_; clear hS; intro aa hS
    refine sA hS hR ((by first | exact Yld.sub64 hS rfl rfl (by omega) | exact Yld.sub hS rfl rfl)) (by decide) ?_; clear hS; intro aa hS
    refine sA hS hR (Yld.move hS rfl) (by decide) ?_; clear hS; intro aa hS
    refine sA hS hR ((by first | exact Yld.to (Yld.convInt hS rfl rfl Try.underlying3) (congrArg (Value.int .i64) (IntWalk.i64_in _ (by omega))) | exact Yld.convInt hS rfl rfl Try.underlying3)) (by decide) ?_; clear hS; intro aa hS
    refine sA hS hR ((by first | exact Yld.add64 hS rfl rfl (by omega) | exact Yld.add hS rfl rfl)) (by decide) ?_; clear hS; intro aa hS
    refine sA hS hR (Yld.move hS rfl) (by decide) ?_; clear hS; intro aa hS
    refine sA hS hR (Yld.len hS rfl Try.underlying24) (by decide) ?_; clear hS; intro aa hS
    refine sA hS hR ((by first | exact Yld.rem64 hS rfl rfl (by omega) | exact Yld.rem hS rfl rfl (by omega))) (by decide) ?_; clear hS; intro aa hS
    obtain ⟨m, hm⟩ : ∃ m : Nat, (ks.length - 1 - i + tn) % ks.length = m := ⟨_, rfl⟩
    have hml : m < ks.length := by rw [← hm]; exact Nat.mod_lt _ (by omega)
    replace hS := hS.say (t := 64) (.int .i64 (m : Int)) rfl (by rw [← hm, Int.natCast_emod]; congr 2; omega)
    refine sA hS hR ((by first | exact Yld.indexL (sz := 5) (m) hS rfl rfl Try.underlying24 info34 pkQ rfl (by first | rfl | omega) (by omega) | exact Yld.indexB (sz := 5) (m) hS rfl rfl Try.underlying24 info34 rfl (by first | rfl | omega) (by omega))) (by decide) ?_; clear hS; intro aa hS
    refine sA hS hR (Yld.loadAgg hS rfl Try.underlying34 rfl info34 (by first | exact Rds.cons (Rd.blk pkQ (by rfl)) (Rds.cons (Rd.blk pkQ (by rfl)) (Rds.cons (Rd.blk pkQ (by rfl)) (Rds.cons (Rd.blk pkQ (by rfl)) (Rds.cons (Rd.blk pkQ (by rfl)) (Rds.nil))))) | exact Rds.rec pkQ (by intro _; rfl) (by omega) | exact Rds.flat1 pkQ (by intro _; rfl) (by omega)) (by rfl)) (by decide) ?_; clear hS; intro aa hS
    obtain ⟨kb, kbe⟩ : ∃ y : Ky, ks[m] = y := ⟨_, rfl⟩
    have hkb : WfK kb := by rw [← kbe]; exact hkw _ (List.getElem_mem _)
    replace hS := hS.say (t := 66) (vK kb) rfl (by rw [kbe])
    refine sB (Bcall hS rfl Try.call12 (Put_ok (k := kb) (vx := 2) (hR.pk (r := trieA 69 79 3 b2 _ _) pkQ) hkb) (by decide) ?_); clear hS; intro aa ww vv hS hp
    clear hR
    obtain ⟨rfl, hR⟩ := hp
    refine wpList_nil ?_
    refine hK406 _ _ ?_
    refine wp_region_lit ?_
    refine sA hS hR ((by first | exact Yld.add64 hS rfl rfl (by omega) | exact Yld.add hS rfl rfl)) (by decide) ?_; clear hS; intro aa hS
    refine sA hS hR (Yld.move hS rfl) (by decide) ?_; clear hS; intro aa hS
    refine wpList_nil ?_
    
    refine ⟨(i + 1, _, _), ?_, ?_, hS.le (Le.cons rfl (Le.nilapp (Le.cons rfl (Le.cons rfl (Le.cons rfl (Le.cons rfl (Le.cons rfl (Le.cons rfl (Le.nil _))))))))), hR.sub (Ex.take pkQ (Ex.take pkQ (Ex.nilapp exQ)))⟩
    · dsimp only; exact ⟨by omega, hP1.put hkj ((List.getElem?_eq_getElem (by omega)).trans (congrArg some kje)) (by omega), hP2.put hkb ((congrArg (fun j => ks[j]?) hm).trans ((List.getElem?_eq_getElem hml).trans (congrArg some kbe))) (by omega)⟩
    · dsimp only; omega
  · intro hg hS
    obtain rfl : i = ks.length := by omega
    have hP1 := hI.2.1
    have hP2 := hI.2.2
    have hKI := hP1.1
    have hsame := fun y => AllPut.same hP1 hP2 y
    have hund : undK N (0, 0, 0, 0, 0) 0 = undK K (0, 0, 0, 0, 0) 0 := (undK_same hKI.wf hP2.1.wf hsame).symm
    have hnod : nodesOf N = nodesOf K := (nodes_same hsame).symm
    refine condF hS rfl ?_
    refine wp_exit ?_
    refine hK401 _ _ ?_
    refine wp_seq_k ?_; intro K409 hK409
    refine wp_region_lit ?_
    refine sA hS hR (Yld.move hS rfl) (by decide) ?_; clear hS; intro aa hS
    refine sB (Bcall hS rfl Try.call18 (TKeys_ok (K := K) (hR.pk (r := trieA 69 79 3 b1 _ _) pkQ)) (by decide) ?_); clear hS; intro aa ww vv hS hp
    clear hR
    obtain ⟨ra, ca, rfl, hR⟩ := hp
    obtain ⟨kys, hxkys⟩ : ∃ y, undK K (0, 0, 0, 0, 0) 0 = y := ⟨_, rfl⟩
    rw [hxkys] at hS hR
    have hAK : AllK K kys := by rw [← hxkys]; exact AllK.of hKI.wf
    have hkyl := hAK.le
    have hKl := hKI.le
    have hkyw : ∀ y ∈ kys, WfK y := fun y h => (hAK.has y h).2
    have hsrt : kys.Pairwise ltK := by rw [← hxkys]; exact undK_sorted hKI.wf
    refine sA hS hR (Yld.move hS rfl) (by decide) ?_; clear hS; intro aa hS
    refine sB (Bcall hS rfl Try.call18 (TKeys_ok (K := N) (hR.pk (r := trieA 69 79 3 b2 _ _) pkQ)) (by decide) ?_); clear hS; intro aa ww vv hS hp
    clear hR
    obtain ⟨rb, cb, rfl, hR⟩ := hp
    rw [hund, hxkys] at hS hR
    refine sA hS hR (Yld.assign hS rfl) (by decide) ?_; clear hS; intro aa hS
    refine sA hS hR (Yld.assign hS rfl) (by decide) ?_; clear hS; intro aa hS
    refine wpList_nil ?_
    refine hK409 _ _ ?_
    refine wp_seq_k ?_; intro K410 hK410
    refine wp_seq_k ?_; intro K411 hK411
    refine wp_region_lit ?_
    refine sA hS hR (Yld.move hS rfl) (by decide) ?_; clear hS; intro aa hS
    refine sA hS hR (Yld.len hS rfl Try.underlying24) (by decide) ?_; clear hS; intro aa hS
    refine sA hS hR (Yld.move hS rfl) (by decide) ?_; clear hS; intro aa hS
    refine sA hS hR (Yld.len hS rfl Try.underlying24) (by decide) ?_; clear hS; intro aa hS
    refine sA hS hR (Yld.neq hS rfl rfl) (by decide) ?_; clear hS; intro aa hS
    replace hS := hS.sayB (t := 77) false rfl (by simp)
    refine sA hS hR (Yld.move hS rfl) (by decide) ?_; clear hS; intro aa hS
    refine sAg hS hR rfl rfl (Yld.move hS rfl) (by decide) ?_; clear hS; intro aa hS
    refine sBg hS rfl rfl (Bcall hS rfl Try.call19 (Nodes_okA (hR.pk (r := trieA 69 79 3 b1 _ _) pkQ)) (by decide) ?_); clear hS; intro aa ww vv hS hp
    clear hR
    obtain ⟨rfl, hR⟩ := hp
    refine sAg hS hR rfl rfl (Yld.move hS rfl) (by decide) ?_; clear hS; intro aa hS
    refine sBg hS rfl rfl (Bcall hS rfl Try.call19 (Nodes_okA (hR.pk (r := trieA 69 79 3 b2 _ _) pkQ)) (by decide) ?_); clear hS; intro aa ww vv hS hp
    clear hR
    obtain ⟨rfl, hR⟩ := hp
    rw [hnod] at hS
    refine sAg hS hR rfl rfl (Yld.neq hS rfl rfl) (by decide) ?_; clear hS; intro aa hS
    replace hS := hS.sayB (t := 83) false rfl (by simp)
    refine sA hS hR (Yld.pickF hS rfl rfl) (by decide) ?_; clear hS; intro aa hS
    refine wpList_nil ?_
    refine hK411 _ _ ?_
    refine condF hS rfl ?_
    refine wp_skip ?_
    refine hK410 _ _ ?_
    refine wp_seq_k ?_; intro K412 hK412
    refine wp_seq_k ?_; intro K413 hK413
    refine wp_region_lit ?_
    refine sA hS hR (Yld.move hS rfl) (by decide) ?_; clear hS; intro aa hS
    refine sA hS hR (Yld.len hS rfl Try.underlying24) (by decide) ?_; clear hS; intro aa hS
    refine sA hS hR (Yld.move hS rfl) (by decide) ?_; clear hS; intro aa hS
    refine wpList_nil ?_
    refine hK413 _ _ ?_
    refine wp_block ?_
    refine loopI (X := Nat) [(11, _), (12, _), (86, _)] (fun x => [(87, .int .i64 (x : Int))]) (fun x => []) _ (fun x => x ≤ kys.length) (fun x => kys.length - x) 0 (Nat.zero_le _) (hS.le (Le.cons rfl (Le.nilapp (Le.cons rfl (Le.cons rfl (Le.cons rfl (Le.nil _))))))) hR ?_
    clear hS hR; rintro i2 aa ww hI hS hR; dsimp only [List.cons_append, List.nil_append] at hI hS hR
    refine wp_seq_k ?_; intro K415 hK415
    refine wp_region_lit ?_
    refine sA hS hR (Yld.lss hS rfl rfl) (by decide) ?_; clear hS; intro aa hS
    refine wpList_nil ?_
    refine hK415 _ _ ?_
    refine wp_seq_k ?_; intro K416 hK416
    refine hS.splitB (t := 88) rfl ?_ ?_ <;> clear hS
    · intro hg hS
      refine condT hS rfl ?_
      refine wp_skip ?_
      refine hK416 _ _ ?_
      refine wp_seq_k ?_; intro K417 hK417
      refine wp_block ?_
      refine wp_seq_k ?_; intro K418 hK418
      refine wp_region_lit ?_
      refine sA hS hR (Yld.move hS rfl) (by decide) ?_; clear hS; intro aa hS
      refine sA hS hR (Yld.assign hS rfl) (by decide) ?_; clear hS; intro aa hS
      refine wpList_nil ?_
      refine hK418 _ _ ?_
      refine wp_seq_k ?_; intro K419 hK419
      refine wp_seq_k ?_; intro K420 hK420
      refine drawn (by kernel_rfl) hR Ex.refl ?_; clear hR; intro ww hR hR0
      refine dA 0 rfl (by kernel_rfl) (by kernel_rfl) (by kernel_rfl) (fun _ _ _ h => h) hS hR0 (Yld.move hS rfl) (by decide) ?_; clear hS; intro aa hS
      refine dA 1 rfl (by kernel_rfl) (by kernel_rfl) (by kernel_rfl) (fun _ _ _ h => h) hS hR0 (Yld.move hS rfl) (by decide) ?_; clear hS; intro aa hS
      refine dA 2 rfl (by kernel_rfl) (by kernel_rfl) (by kernel_rfl) (fun _ _ _ h => h) hS hR0 ((by first | exact Yld.indexL (sz := 5) (i2) hS rfl rfl Try.underlying24 info34 pkQ rfl (by first | rfl | omega) (by omega) | exact Yld.indexB (sz := 5) (i2) hS rfl rfl Try.underlying24 info34 rfl (by first | rfl | omega) (by omega))) (by decide) ?_; clear hS; intro aa hS
      refine dA 3 rfl (by kernel_rfl) (by kernel_rfl) (by kernel_rfl) (fun _ _ _ h => h) hS hR0 (Yld.loadAgg hS rfl Try.underlying34 rfl info34 (by first | exact Rds.cons (Rd.blk pkQ (by rfl)) (Rds.cons (Rd.blk pkQ (by rfl)) (Rds.cons (Rd.blk pkQ (by rfl)) (Rds.cons (Rd.blk pkQ (by rfl)) (Rds.cons (Rd.blk pkQ (by rfl)) (Rds.nil))))) | exact Rds.rec pkQ (by intro _; rfl) (by omega) | exact Rds.flat1 pkQ (by intro _; rfl) (by omega)) (by rfl)) (by decide) ?_; clear hS; intro aa hS
      obtain ⟨ya, yae⟩ : ∃ y : Ky, kys[i2] = y := ⟨_, rfl⟩
      have hya : WfK ya := by rw [← yae]; exact hkyw _ (List.getElem_mem _)
      replace hS := hS.say (t := 93) (vK ya) rfl (by rw [yae])
      refine dA 4 rfl (by kernel_rfl) (by kernel_rfl) (by kernel_rfl) (fun _ _ _ h => h) hS hR0 (Yld.move hS rfl) (by decide) ?_; clear hS; intro aa hS
      refine dA 5 rfl (by kernel_rfl) (by kernel_rfl) (by kernel_rfl) (fun _ _ _ h => h) hS hR0 (Yld.move hS rfl) (by decide) ?_; clear hS; intro aa hS
      refine dA 6 rfl (by kernel_rfl) (by kernel_rfl) (by kernel_rfl) (fun _ _ _ h => h) hS hR0 ((by first | exact Yld.indexL (sz := 5) (i2) hS rfl rfl Try.underlying24 info34 pkQ rfl (by first | rfl | omega) (by omega) | exact Yld.indexB (sz := 5) (i2) hS rfl rfl Try.underlying24 info34 rfl (by first | rfl | omega) (by omega))) (by decide) ?_; clear hS; intro aa hS
      refine dA 7 rfl (by kernel_rfl) (by kernel_rfl) (by kernel_rfl) (fun _ _ _ h => h) hS hR0 (Yld.loadAgg hS rfl Try.underlying34 rfl info34 (by first | exact Rds.cons (Rd.blk pkQ (by rfl)) (Rds.cons (Rd.blk pkQ (by rfl)) (Rds.cons (Rd.blk pkQ (by rfl)) (Rds.cons (Rd.blk pkQ (by rfl)) (Rds.cons (Rd.blk pkQ (by rfl)) (Rds.nil))))) | exact Rds.rec pkQ (by intro _; rfl) (by omega) | exact Rds.flat1 pkQ (by intro _; rfl) (by omega)) (by rfl)) (by decide) ?_; clear hS; intro aa hS
      replace hS := hS.say (t := 97) (vK ya) rfl (by rw [yae])
      refine dA 8 rfl (by kernel_rfl) (by kernel_rfl) (by kernel_rfl) (fun _ _ _ h => h) hS hR0 (Yld.binRun hS rfl rfl (neq34 _ _ _ _ _ _ _ _ _ _ _ _)) (by decide) ?_; clear hS; intro aa hS
      replace hS := hS.sayB (t := 98) false rfl (by simp)
      refine wpAnyH_done (by kernel_rfl) ?_ _; clear hR0
      refine hK420 _ _ ?_
      refine condF hS rfl ?_
      refine wp_skip ?_
      refine hK419 _ _ ?_
      refine wp_seq_k ?_; intro K421 hK421
      refine wp_seq_k ?_; intro K422 hK422
      refine wp_region_lit ?_
      refine sA hS hR (Yld.move hS rfl) (by decide) ?_; clear hS; intro aa hS
      refine sA hS hR (Yld.eql hS rfl rfl) (by decide) ?_; clear hS; intro aa hS
      refine wpList_nil ?_
      refine hK422 _ _ ?_
      refine hS.splitB (t := 100) rfl ?_ ?_ <;> clear hS
      · intro hg hS
        refine condT hS rfl ?_
        refine wp_exit ?_
        refine hK417 _ _ ?_
        refine wp_region_lit ?_
        refine sA hS hR ((by first | exact Yld.add64 hS rfl rfl (by omega) | exact Yld.add hS rfl rfl)) (by decide) ?_; clear hS; intro aa hS
        refine sA hS hR (Yld.move hS rfl) (by decide) ?_; clear hS; intro aa hS
        refine wpList_nil ?_
        
        refine ⟨i2 + 1, ?_, ?_, hS.le (Le.cons rfl (Le.nilapp (Le.cons rfl (Le.cons rfl (Le.cons rfl (Le.nil _)))))), hR.sub (Ex.nilapp exQ)⟩
        · omega
        · omega
      · intro hg hS
        obtain ⟨i3, rfl⟩ : ∃ y, i2 = y + 1 := ⟨i2 - 1, by omega⟩
        obtain ⟨pa, pae⟩ : ∃ y : Ky, kys[i3] = y := ⟨_, rfl⟩
        have hpa : WfK pa := by rw [← pae]; exact hkyw _ (List.getElem_mem _)
        have hlt : ltK pa ya := by
          have h9 := List.pairwise_iff_getElem.1 hsrt i3 (i3 + 1) (by omega) (by omega) (by omega)
          rw [pae, yae] at h9; exact h9
        refine condF hS rfl ?_
        refine wp_skip ?_
        refine hK421 _ _ ?_
        refine wp_seq_k ?_; intro K423 hK423
        refine wp_region_lit ?_
        refine sA hS hR (Yld.assign hS rfl) (by decide) ?_; clear hS; intro aa hS
        refine wpList_nil ?_
        refine hK423 _ _ ?_
        refine wp_seq_k ?_; intro K424 hK424
        refine wp_block ?_
        refine loopI (X := Nat) [(11, _), (12, _), (13, _), (86, _), (87, _), (88, _), (89, _), (90, _), (91, _), (92, _), (93, _), (94, _), (95, _), (96, _), (97, _), (98, _), (99, _), (100, _)] (fun x => [(14, .int .i64 (x : Int))]) (fun x => []) _ (fun x => x ≤ 26 ∧ ∀ j, j < x → dig pa j = dig ya j) (fun x => 26 - x) 0 ⟨Nat.zero_le _, fun j h => by omega⟩ (hS.le (Le.cons rfl (Le.nilapp (Le.cons rfl (Le.cons rfl (Le.cons rfl (Le.cons rfl (Le.cons rfl (Le.cons rfl (Le.cons rfl (Le.cons rfl (Le.cons rfl (Le.cons rfl (Le.cons rfl (Le.cons rfl (Le.cons rfl (Le.cons rfl (Le.cons rfl (Le.cons rfl (Le.cons rfl (Le.cons rfl (Le.nil _)))))))))))))))))))))) hR ?_
        clear hS hR; rintro d aa ww hI hS hR; dsimp only [List.cons_append, List.nil_append] at hI hS hR
        refine wp_seq_k ?_; intro K426 hK426
        refine wp_seq_k ?_; intro K427 hK427
        refine drawn (by kernel_rfl) hR Ex.refl ?_; clear hR; intro ww hR hR0
        refine dA 0 rfl (by kernel_rfl) (by kernel_rfl) (by kernel_rfl) (fun _ _ _ h => h) hS hR0 (Yld.move hS rfl) (by decide) ?_; clear hS; intro aa hS
        refine dA 1 rfl (by kernel_rfl) (by kernel_rfl) (by kernel_rfl) (fun _ _ _ h => h) hS hR0 (Yld.lss hS rfl rfl) (by decide) ?_; clear hS; intro aa hS
        refine dA 2 rfl (by kernel_rfl) (by kernel_rfl) (by kernel_rfl) (fun _ _ _ h => h) hS hR0 (Yld.move hS rfl) (by decide) ?_; clear hS; intro aa hS
        refine hS.splitB (t := 103) rfl ?_ ?_ <;> clear hS
        · intro hg hS
          refine dAg 3 rfl (by kernel_rfl) (by kernel_rfl) (by kernel_rfl) (fun _ _ _ h => h) hS rfl rfl hR0 (Yld.move hS rfl) (by decide) ?_; clear hS; intro aa hS
          refine dAg 4 rfl (by kernel_rfl) (by kernel_rfl) (by kernel_rfl) (fun _ _ _ h => h) hS rfl rfl hR0 (Yld.move hS rfl) (by decide) ?_; clear hS; intro aa hS
          refine dAg 5 rfl (by kernel_rfl) (by kernel_rfl) (by kernel_rfl) (fun _ _ _ h => h) hS rfl rfl hR0 ((by first | exact Yld.sub64 hS rfl rfl (by omega) | exact Yld.sub hS rfl rfl)) (by decide) ?_; clear hS; intro aa hS
          refine dAg 6 rfl (by kernel_rfl) (by kernel_rfl) (by kernel_rfl) (fun _ _ _ h => h) hS rfl rfl hR0 ((by first | exact Yld.indexL (sz := 5) (i3) hS rfl rfl Try.underlying24 info34 pkQ rfl (by first | rfl | omega) (by omega) | exact Yld.indexB (sz := 5) (i3) hS rfl rfl Try.underlying24 info34 rfl (by first | rfl | omega) (by omega))) (by decide) ?_; clear hS; intro aa hS
          refine dAg 7 rfl (by kernel_rfl) (by kernel_rfl) (by kernel_rfl) (fun _ _ _ h => h) hS rfl rfl hR0 (Yld.loadAgg hS rfl Try.underlying34 rfl info34 (by first | exact Rds.cons (Rd.blk pkQ (by rfl)) (Rds.cons (Rd.blk pkQ (by rfl)) (Rds.cons (Rd.blk pkQ (by rfl)) (Rds.cons (Rd.blk pkQ (by rfl)) (Rds.cons (Rd.blk pkQ (by rfl)) (Rds.nil))))) | exact Rds.rec pkQ (by intro _; rfl) (by omega) | exact Rds.flat1 pkQ (by intro _; rfl) (by omega)) (by rfl)) (by decide) ?_; clear hS; intro aa hS
          replace hS := hS.say (t := 108) (vK pa) rfl (by rw [pae])
          refine dAg 8 rfl (by kernel_rfl) (by kernel_rfl) (by kernel_rfl) (fun _ _ _ h => h) hS rfl rfl hR0 (Yld.move hS rfl) (by decide) ?_; clear hS; intro aa hS
          refine dAg 10 rfl (by kernel_rfl) (by kernel_rfl) (by kernel_rfl) (fun _ _ _ h => h) hS rfl rfl hR0 (Yld.move hS rfl) (by decide) ?_; clear hS; intro aa hS
          refine dAg 11 rfl (by kernel_rfl) (by kernel_rfl) (by kernel_rfl) (fun _ _ _ h => h) hS rfl rfl hR0 (Yld.move hS rfl) (by decide) ?_; clear hS; intro aa hS
          refine dAg 12 rfl (by kernel_rfl) (by kernel_rfl) (by kernel_rfl) (fun _ _ _ h => h) hS rfl rfl hR0 ((by first | exact Yld.indexL (sz := 5) (i3 + 1) hS rfl rfl Try.underlying24 info34 pkQ rfl (by first | rfl | omega) (by omega) | exact Yld.indexB (sz := 5) (i3 + 1) hS rfl rfl Try.underlying24 info34 rfl (by first | rfl | omega) (by omega))) (by decide) ?_; clear hS; intro aa hS
          refine dAg 13 rfl (by kernel_rfl) (by kernel_rfl) (by kernel_rfl) (fun _ _ _ h => h) hS rfl rfl hR0 (Yld.loadAgg hS rfl Try.underlying34 rfl info34 (by first | exact Rds.cons (Rd.blk pkQ (by rfl)) (Rds.cons (Rd.blk pkQ (by rfl)) (Rds.cons (Rd.blk pkQ (by rfl)) (Rds.cons (Rd.blk pkQ (by rfl)) (Rds.cons (Rd.blk pkQ (by rfl)) (Rds.nil))))) | exact Rds.rec pkQ (by intro _; rfl) (by omega) | exact Rds.flat1 pkQ (by intro _; rfl) (by omega)) (by rfl)) (by decide) ?_; clear hS; intro aa hS
          replace hS := hS.say (t := 114) (vK ya) rfl (by rw [yae])
          refine dAg 14 rfl (by kernel_rfl) (by kernel_rfl) (by kernel_rfl) (fun _ _ _ h => h) hS rfl rfl hR0 (Yld.move hS rfl) (by decide) ?_; clear hS; intro aa hS
          refine dOne (i := 9) (by kernel_rfl) ?_
          refine dopg rfl hS rfl rfl (Bcall hS rfl Try.call20 (Digit_ok (k := pa) hR hpa) (by decide) ?_); clear hS; intro aa ww vv hS hp
          clear hR hR0
          obtain ⟨rfl, hR⟩ := hp
          refine dnext (hR.sub exQ) ?_; intro hR0
          replace hS := hS.say (t := 110) (.int .u8 (dig pa d)) rfl (by rw [show digI pa (d : Int) = dig pa d from by rw [digI, if_pos (by omega), Int.toNat_natCast]])
          refine dOne (i := 15) (by kernel_rfl) ?_
          refine dopg rfl hS rfl rfl (Bcall hS rfl Try.call20 (Digit_ok (k := ya) hR hya) (by decide) ?_); clear hS; intro aa ww vv hS hp
          clear hR hR0
          obtain ⟨rfl, hR⟩ := hp
          refine dnext (hR.sub exQ) ?_; intro hR0
          replace hS := hS.say (t := 116) (.int .u8 (dig ya d)) rfl (by rw [show digI ya (d : Int) = dig ya d from by rw [digI, if_pos (by omega), Int.toNat_natCast]])
          refine dAg 16 rfl (by kernel_rfl) (by kernel_rfl) (by kernel_rfl) (fun _ _ _ h => h) hS rfl rfl hR0 (Yld.eql hS rfl rfl) (by decide) ?_; clear hS; intro aa hS
          refine dA 17 rfl (by kernel_rfl) (by kernel_rfl) (by kernel_rfl) (fun _ _ _ h => h) hS hR0 (Yld.pickT hS rfl rfl) (by decide) ?_; clear hS; intro aa hS
          refine wpAnyH_done (by kernel_rfl) ?_ _; clear hR0
          refine hK427 _ _ ?_
          refine hS.splitB (t := 118) rfl ?_ ?_ <;> clear hS
          · intro hg hS
            have hgd : dig pa d = dig ya d := hg
            refine condT hS rfl ?_
            refine wp_skip ?_
            refine hK426 _ _ ?_
            refine wp_block ?_
            refine wp_region_lit ?_
            refine sA hS hR (Yld.move hS rfl) (by decide) ?_; clear hS; intro aa hS
            refine sA hS hR ((by first | exact Yld.add64 hS rfl rfl (by omega) | exact Yld.add hS rfl rfl)) (by decide) ?_; clear hS; intro aa hS
            refine sA hS hR (Yld.assign hS rfl) (by decide) ?_; clear hS; intro aa hS
            refine wpList_nil ?_
            
            refine ⟨d + 1, ?_, ?_, hS.le (Le.cons rfl (Le.nilapp (Le.cons rfl (Le.cons rfl (Le.cons rfl (Le.cons rfl (Le.cons rfl (Le.cons rfl (Le.cons rfl (Le.cons rfl (Le.cons rfl (Le.cons rfl (Le.cons rfl (Le.cons rfl (Le.cons rfl (Le.cons rfl (Le.cons rfl (Le.cons rfl (Le.cons rfl (Le.cons rfl (Le.nil _))))))))))))))))))))), hR.sub (Ex.nilapp exQ)⟩
            · exact ⟨by omega, fun j hj => by
                by_cases e : j = d
                · rw [e]; exact hgd
                · exact hI.2 j (by omega)⟩
            · omega
          · intro hg hS
            have hgd : ¬ dig pa d = dig ya d := hg
            refine condF hS rfl ?_
            refine wp_exit ?_
            refine hK424 _ _ ?_
            refine wp_seq_k ?_; intro K428 hK428
            refine drawn (by kernel_rfl) hR Ex.refl ?_; clear hR; intro ww hR hR0
            refine dA 0 rfl (by kernel_rfl) (by kernel_rfl) (by kernel_rfl) (fun _ _ _ h => h) hS hR0 (Yld.move hS rfl) (by decide) ?_; clear hS; intro aa hS
            refine dA 1 rfl (by kernel_rfl) (by kernel_rfl) (by kernel_rfl) (fun _ _ _ h => h) hS hR0 (Yld.eql hS rfl rfl) (by decide) ?_; clear hS; intro aa hS
            replace hS := hS.sayB (t := 122) false rfl (by exact decide_eq_false (by omega))
            refine dA 2 rfl (by kernel_rfl) (by kernel_rfl) (by kernel_rfl) (fun _ _ _ h => h) hS hR0 (Yld.move hS rfl) (by decide) ?_; clear hS; intro aa hS
            refine dAg 3 rfl (by kernel_rfl) (by kernel_rfl) (by kernel_rfl) (fun _ _ _ h => h) hS rfl rfl hR0 (Yld.move hS rfl) (by decide) ?_; clear hS; intro aa hS
            refine dAg 4 rfl (by kernel_rfl) (by kernel_rfl) (by kernel_rfl) (fun _ _ _ h => h) hS rfl rfl hR0 (Yld.move hS rfl) (by decide) ?_; clear hS; intro aa hS
            refine dAg 5 rfl (by kernel_rfl) (by kernel_rfl) (by kernel_rfl) (fun _ _ _ h => h) hS rfl rfl hR0 ((by first | exact Yld.sub64 hS rfl rfl (by omega) | exact Yld.sub hS rfl rfl)) (by decide) ?_; clear hS; intro aa hS
            refine dAg 6 rfl (by kernel_rfl) (by kernel_rfl) (by kernel_rfl) (fun _ _ _ h => h) hS rfl rfl hR0 ((by first | exact Yld.indexL (sz := 5) (i3) hS rfl rfl Try.underlying24 info34 pkQ rfl (by first | rfl | omega) (by omega) | exact Yld.indexB (sz := 5) (i3) hS rfl rfl Try.underlying24 info34 rfl (by first | rfl | omega) (by omega))) (by decide) ?_; clear hS; intro aa hS
            refine dAg 7 rfl (by kernel_rfl) (by kernel_rfl) (by kernel_rfl) (fun _ _ _ h => h) hS rfl rfl hR0 (Yld.loadAgg hS rfl Try.underlying34 rfl info34 (by first | exact Rds.cons (Rd.blk pkQ (by rfl)) (Rds.cons (Rd.blk pkQ (by rfl)) (Rds.cons (Rd.blk pkQ (by rfl)) (Rds.cons (Rd.blk pkQ (by rfl)) (Rds.cons (Rd.blk pkQ (by rfl)) (Rds.nil))))) | exact Rds.rec pkQ (by intro _; rfl) (by omega) | exact Rds.flat1 pkQ (by intro _; rfl) (by omega)) (by rfl)) (by decide) ?_; clear hS; intro aa hS
            replace hS := hS.say (t := 128) (vK pa) rfl (by rw [pae])
            refine dAg 8 rfl (by kernel_rfl) (by kernel_rfl) (by kernel_rfl) (fun _ _ _ h => h) hS rfl rfl hR0 (Yld.move hS rfl) (by decide) ?_; clear hS; intro aa hS
            refine dAg 10 rfl (by kernel_rfl) (by kernel_rfl) (by kernel_rfl) (fun _ _ _ h => h) hS rfl rfl hR0 (Yld.move hS rfl) (by decide) ?_; clear hS; intro aa hS
            refine dAg 11 rfl (by kernel_rfl) (by kernel_rfl) (by kernel_rfl) (fun _ _ _ h => h) hS rfl rfl hR0 (Yld.move hS rfl) (by decide) ?_; clear hS; intro aa hS
            refine dAg 12 rfl (by kernel_rfl) (by kernel_rfl) (by kernel_rfl) (fun _ _ _ h => h) hS rfl rfl hR0 ((by first | exact Yld.indexL (sz := 5) (i3 + 1) hS rfl rfl Try.underlying24 info34 pkQ rfl (by first | rfl | omega) (by omega) | exact Yld.indexB (sz := 5) (i3 + 1) hS rfl rfl Try.underlying24 info34 rfl (by first | rfl | omega) (by omega))) (by decide) ?_; clear hS; intro aa hS
            refine dAg 13 rfl (by kernel_rfl) (by kernel_rfl) (by kernel_rfl) (fun _ _ _ h => h) hS rfl rfl hR0 (Yld.loadAgg hS rfl Try.underlying34 rfl info34 (by first | exact Rds.cons (Rd.blk pkQ (by rfl)) (Rds.cons (Rd.blk pkQ (by rfl)) (Rds.cons (Rd.blk pkQ (by rfl)) (Rds.cons (Rd.blk pkQ (by rfl)) (Rds.cons (Rd.blk pkQ (by rfl)) (Rds.nil))))) | exact Rds.rec pkQ (by intro _; rfl) (by omega) | exact Rds.flat1 pkQ (by intro _; rfl) (by omega)) (by rfl)) (by decide) ?_; clear hS; intro aa hS
            replace hS := hS.say (t := 134) (vK ya) rfl (by rw [yae])
            refine dAg 14 rfl (by kernel_rfl) (by kernel_rfl) (by kernel_rfl) (fun _ _ _ h => h) hS rfl rfl hR0 (Yld.move hS rfl) (by decide) ?_; clear hS; intro aa hS
            refine dOne (i := 9) (by kernel_rfl) ?_
            refine dopg rfl hS rfl rfl (Bcall hS rfl Try.call20 (Digit_ok (k := pa) hR hpa) (by decide) ?_); clear hS; intro aa ww vv hS hp
            clear hR hR0
            obtain ⟨rfl, hR⟩ := hp
            refine dnext (hR.sub exQ) ?_; intro hR0
            replace hS := hS.say (t := 130) (.int .u8 (dig pa d)) rfl (by rw [show digI pa (d : Int) = dig pa d from by rw [digI, if_pos (by omega), Int.toNat_natCast]])
            refine dOne (i := 15) (by kernel_rfl) ?_
            refine dopg rfl hS rfl rfl (Bcall hS rfl Try.call20 (Digit_ok (k := ya) hR hya) (by decide) ?_); clear hS; intro aa ww vv hS hp
            clear hR hR0
            obtain ⟨rfl, hR⟩ := hp
            refine dnext (hR.sub exQ) ?_; intro hR0
            replace hS := hS.say (t := 136) (.int .u8 (dig ya d)) rfl (by rw [show digI ya (d : Int) = dig ya d from by rw [digI, if_pos (by omega), Int.toNat_natCast]])
            refine dAg 16 rfl (by kernel_rfl) (by kernel_rfl) (by kernel_rfl) (fun _ _ _ h => h) hS rfl rfl hR0 (Yld.geq hS rfl rfl) (by decide) ?_; clear hS; intro aa hS
            replace hS := hS.sayB (t := 137) false rfl (by exact decide_eq_false (by have := (hlt.first (d := d) (by omega) hI.2).2 hgd; omega))
            refine dA 17 rfl (by kernel_rfl) (by kernel_rfl) (by kernel_rfl) (fun _ _ _ h => h) hS hR0 (Yld.pickF hS rfl rfl) (by decide) ?_; clear hS; intro aa hS
            refine wpAnyH_done (by kernel_rfl) ?_ _; clear hR0
            refine hK428 _ _ ?_
            refine condF hS rfl ?_
            refine wp_skip ?_
            refine hK417 _ _ ?_
            refine wp_region_lit ?_
            refine sA hS hR ((by first | exact Yld.add64 hS rfl rfl (by omega) | exact Yld.add hS rfl rfl)) (by decide) ?_; clear hS; intro aa hS
            refine sA hS hR (Yld.move hS rfl) (by decide) ?_; clear hS; intro aa hS
            refine wpList_nil ?_
            
            refine ⟨i3 + 1 + 1, ?_, ?_, hS.le (Le.cons rfl (Le.nilapp (Le.cons rfl (Le.cons rfl (Le.cons rfl (Le.nil _)))))), hR.sub (Ex.nilapp exQ)⟩
            · omega
            · omega
        · intro hg hS
          have h9 := (hlt.first (d := d) (by omega) hI.2).1; omega
    · intro hg hS
      refine condF hS rfl ?_
      refine wp_exit ?_
      refine hK412 _ _ ?_
      refine wp_seq_k ?_; intro K429 hK429
      refine wp_region_lit ?_
      refine sB (Bcall hS rfl Try.call17 (awake_ok hR) (by decide) ?_); clear hS; intro aa ww vv hS hp
      clear hR
      obtain ⟨rfl, hR⟩ := hp
      refine sA hS hR (Yld.assign hS rfl) (by decide) ?_; clear hS; intro aa hS
      refine wpList_nil ?_
      refine hK429 _ _ ?_
      refine wp_ret ?_
      repeat (first | with_reducible refine thenR ?_ | with_reducible refine blockR ?_ | with_reducible refine scopeR ?_)
      refine ret1 (fn := Try.f5) (e := .ret) (.inl rfl) Try.results5 hS hR ⟨_, (.tmp rfl), ?_⟩
      exact ⟨rfl, (hR.sub exQ)⟩
end Go.Proofs.Ytmcfmhiadlkglaa.Sx
