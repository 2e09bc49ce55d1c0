/-
 
-/
import Derived.Test.YthhndmlfgjcgpaaZTbB
namespace Go.Proofs.Ythhndmlfgjcgpaa.Sx
open Go
set_option maxRecDepth 20000
set_option linter.unusedVariables false
set_option linter.unusedSimpArgs false
theorem bls38_1_0 (x0_0 : Int) (x0_1 : Int) (w : World) : (Instr.buildSlice 38 1 [(0, .agg [.int .i64 x0_0, .int .i64 x0_1].toArray)].toArray).run Try.prog w = .ok (.slice (some ⟨w.heap.size, 0, none⟩) 1 1) (w.alloc (.cells ([.int .i64 x0_0, .int .i64 x0_1] : List Value).toArray 29)) := by kernel_rfl
theorem TbFirst_no {T : Tb} {S n b : Nat} {l : List HP} {w : World} {i : Int} (hn : (inF T.F i).head? = none) (hR : Sep (tableA tt b S n T :: l) w) : CallR Try.prog 24 [.pointer (some ⟨b, 0, none⟩), .int .i64 i] w (fun v w' => v = .tuple [vH 0 0, .bool false].toArray ∧ Sep (tableA tt b S n T :: l) w') := by
 refine enter Try.func24 rfl Try.ntmps24 (Nat.le_of_ble_eq_true rfl) ?_; intro aa hS
 obtain ⟨bo, bb, ba, bl, r, c, K1, K2, L, ky, hT, hS4, hR⟩ := (hR.pk (r := tableA _ b _ _ _) pkQ).tableE
 dsimp only at hR
 have hTF := hT.tf
 have hkl := hT.len
 have hwl := (hR.pk (r := linksA _ _ _ bl _ _ _) pkQ).linksWL
 have hbk : Bk r := (hR.pk (r := sls r _ _ _ _ _) pkQ).bk (by have := hTF.ok.pos; have := hTF.size; omega)
 refine wp_seq_k ?_; intro K485 hK485
 refine wp_region_lit ?_
 refine sB (Balloc hS hR info29 (by rfl) (by rfl) (by decide) ?_); clear hS hR; intro aa ww bb4 hS hR
 revert aa
 refine qN hR ?_
 intro aa hS
 refine wpList_nil ?_
 refine hK485 _ _ ?_
 refine wp_seq_k ?_; intro K486 hK486
 refine wp_seq_k ?_; intro K487 hK487
 refine wp_region_lit ?_
 revert aa
 refine qM hR ?_
 intro aa hS
 refine sB (Bcall hS rfl Try.call35 (tbsome_ok (hR.pk (r := blk b _ _) pkQ)) (by decide) ?_); clear hS; intro aa ww vv hS hp
 clear hR
 obtain ⟨rfl, hR⟩ := hp
 refine sA hS hR (Yld.not hS rfl) (by decide) ?_; clear hS; intro aa hS
 refine wpList_nil ?_
 refine hK487 _ _ ?_
 refine condF hS rfl ?_
 refine wp_skip ?_
 refine hK486 _ _ ?_
 refine wp_seq_k ?_; intro K488 hK488
 refine wp_region_lit ?_
 revert aa
 refine qM hR ?_
 refine qA hR rfl (fun _ hS => Yld.nilCheck hS rfl) ?_
 refine qA hR rfl (fun _ hS => Yld.fieldAddr hS rfl 3 Try.underlying81 rfl rfl info79 (by decide)) ?_
 refine qA hR rfl (fun _ hS => Yld.load1 hS rfl Try.underlying79 rfl rdQ) ?_
 refine qM hR ?_
 intro aa hS
 refine sB (Bcall hS rfl Try.call55 (LFirst_ok (x := i) (hR.pk (r := linksA _ _ _ bl _ _ _) pkQ)) (by decide) ?_); clear hS; intro aa ww vv hS hp
 clear hR
 obtain ⟨rfl, hR⟩ := hp
 rw [hT.fst i, hn] at hS
 dsimp only [optV, Option.getD, Option.isSome, Option.map] at hS
 revert aa
 refine qM hR ?_
 refine qX hR ?_
 refine qX hR ?_
 refine qB (t := 20) false rfl (by rfl) ?_
 refine qN hR ?_
 refine qN hR ?_
 intro aa hS
 refine wpList_nil ?_
 refine hK488 _ _ ?_
 refine wp_seq_k ?_; intro K489 hK489
 refine wp_seq_k ?_; intro K490 hK490
 refine wp_region_lit ?_
 revert aa
 refine qM hR ?_
 refine qA hR rfl (fun _ hS => Yld.not hS rfl) ?_
 intro aa hS
 refine wpList_nil ?_
 refine hK490 _ _ ?_
 refine condT hS rfl ?_
 refine wp_seq_k ?_; intro K491 hK491
 refine wp_region_lit ?_
 refine sA hS hR (Yld.build hS rfl (bld29_)) (by decide) ?_; clear hS; intro aa hS
 refine sB (Bstore hS hR rfl rfl (by rfl) info29 (by rfl) pkQ (by rfl) (Nat.le_of_ble_eq_true rfl) ?_); clear hR; intro ww hR
 revert aa
 refine qN hR ?_
 intro aa hS
 refine wpList_nil ?_
 refine hK491 _ _ ?_
 refine wp_ret ?_
 repeat first | with_reducible refine thenR ?_ | with_reducible refine blockR ?_ | with_reducible refine scopeR ?_
 refine retN (fn := Try.f24) (e := .ret) (.inl rfl) Try.results24 hS hR ⟨_, .cons (.agg rfl Try.underlying29 rfl info29 (Rds.cons (Rd.blk pkQ (by rfl)) (Rds.cons (Rd.blk pkQ (by rfl)) (Rds.nil))) (by rfl)) (.cons (.tmp rfl) (.nil)), rfl, ?_⟩
 try dsimp only [lay, List.set] at hR
 exact ⟨rfl, Sep.tableI (t := tt) (b := b) (T := T) hT hS4 (hR.sub exQ)⟩
theorem TbFirst_ok {T : Tb} {S n b : Nat} {l : List HP} {w : World} {i : Int} {f : Fl} (hh : (inF T.F i).head? = some f) (hR : Sep (tableA tt b S n T :: l) w) : CallR Try.prog 24 [.pointer (some ⟨b, 0, none⟩), .int .i64 i] w (fun v w' => v = .tuple [vH f.s f.u, .bool true].toArray ∧ Sep (tableA tt b S n T :: l) w') := by
 refine enter Try.func24 rfl Try.ntmps24 (Nat.le_of_ble_eq_true rfl) ?_; intro aa hS
 obtain ⟨bo, bb, ba, bl, r, c, K1, K2, L, ky, hT, hS4, hR⟩ := (hR.pk (r := tableA _ b _ _ _) pkQ).tableE
 dsimp only at hR
 have hTF := hT.tf
 have hkl := hT.len
 have hwl := (hR.pk (r := linksA _ _ _ bl _ _ _) pkQ).linksWL
 have hbk : Bk r := (hR.pk (r := sls r _ _ _ _ _) pkQ).bk (by have := hTF.ok.pos; have := hTF.size; omega)
 have hf : f ∈ T.F := inF_mem (List.mem_of_mem_head? hh)
 refine wp_seq_k ?_; intro K492 hK492
 refine wp_region_lit ?_
 refine sB (Balloc hS hR info29 (by rfl) (by rfl) (by decide) ?_); clear hS hR; intro aa ww bb4 hS hR
 revert aa
 refine qN hR ?_
 intro aa hS
 refine wpList_nil ?_
 refine hK492 _ _ ?_
 refine wp_seq_k ?_; intro K493 hK493
 refine wp_seq_k ?_; intro K494 hK494
 refine wp_region_lit ?_
 revert aa
 refine qM hR ?_
 intro aa hS
 refine sB (Bcall hS rfl Try.call35 (tbsome_ok (hR.pk (r := blk b _ _) pkQ)) (by decide) ?_); clear hS; intro aa ww vv hS hp
 clear hR
 obtain ⟨rfl, hR⟩ := hp
 refine sA hS hR (Yld.not hS rfl) (by decide) ?_; clear hS; intro aa hS
 refine wpList_nil ?_
 refine hK494 _ _ ?_
 refine condF hS rfl ?_
 refine wp_skip ?_
 refine hK493 _ _ ?_
 refine wp_seq_k ?_; intro K495 hK495
 refine wp_region_lit ?_
 revert aa
 refine qM hR ?_
 refine qA hR rfl (fun _ hS => Yld.nilCheck hS rfl) ?_
 refine qA hR rfl (fun _ hS => Yld.fieldAddr hS rfl 3 Try.underlying81 rfl rfl info79 (by decide)) ?_
 refine qA hR rfl (fun _ hS => Yld.load1 hS rfl Try.underlying79 rfl rdQ) ?_
 refine qM hR ?_
 intro aa hS
 refine sB (Bcall hS rfl Try.call55 (LFirst_ok (x := i) (hR.pk (r := linksA _ _ _ bl _ _ _) pkQ)) (by decide) ?_); clear hS; intro aa ww vv hS hp
 clear hR
 obtain ⟨rfl, hR⟩ := hp
 rw [hT.fst i, hh] at hS
 dsimp only [optV, Option.getD, Option.isSome, Option.map] at hS
 revert aa
 refine qM hR ?_
 refine qX hR ?_
 refine qX hR ?_
 refine qB (t := 20) true rfl (by rfl) ?_
 refine qN hR ?_
 refine qN hR ?_
 intro aa hS
 refine wpList_nil ?_
 refine hK495 _ _ ?_
 refine wp_seq_k ?_; intro K496 hK496
 refine wp_seq_k ?_; intro K497 hK497
 refine wp_region_lit ?_
 revert aa
 refine qM hR ?_
 refine qA hR rfl (fun _ hS => Yld.not hS rfl) ?_
 intro aa hS
 refine wpList_nil ?_
 refine hK497 _ _ ?_
 refine condF hS rfl ?_
 refine wp_skip ?_
 refine hK496 _ _ ?_
 refine wp_seq_k ?_; intro K498 hK498
 refine wp_region_lit ?_
 try (replace hR := Sep.tableI (t := tt) (b := b) (T := T) hT hS4 (hR.sub exQ))
 revert aa
 refine qM hR ?_
 intro aa hS
 try (replace hR := Sep.tableI (t := tt) (b := b) (T := T) hT hS4 (hR.sub exQ))
 revert aa
 refine qM hR ?_
 intro aa hS
 refine sB (Bcall hS rfl Try.call41 (tbat_ok hf (hR.pk (r := tableA _ b _ _ _) pkQ)) (by decide) ?_); clear hS; intro aa ww vv hS hp
 clear hR
 obtain ⟨rfl, hR⟩ := hp
 refine sB (Bstore hS hR rfl rfl (by rfl) info29 (by rfl) pkQ (by rfl) (Nat.le_of_ble_eq_true rfl) ?_); clear hR; intro ww hR
 revert aa
 refine qN hR ?_
 intro aa hS
 refine wpList_nil ?_
 refine hK498 _ _ ?_
 refine wp_ret ?_
 repeat first | with_reducible refine thenR ?_ | with_reducible refine blockR ?_ | with_reducible refine scopeR ?_
 refine retN (fn := Try.f24) (e := .ret) (.inl rfl) Try.results24 hS hR ⟨_, .cons (.agg rfl Try.underlying29 rfl info29 (Rds.cons (Rd.blk pkQ (by rfl)) (Rds.cons (Rd.blk pkQ (by rfl)) (Rds.nil))) (by rfl)) (.cons (.tmp rfl) (.nil)), rfl, ?_⟩
 try dsimp only [lay, List.set] at hR
 exact ⟨rfl, (hR.sub exQ)⟩
theorem eachS_ok {T : Tb} {S n b : Nat} {l : List HP} {w : World} {fs : List Fl} {q : Option Addr} {qc : Nat} (hfs : ∀ f ∈ fs, f ∈ T.F) (hl : fs.length ≤ 9000) (hR : Sep (sls q (cst (fs.map Fl.s)).length qc 3 1 ((cst (fs.map Fl.s)).flatMap e1) :: tableA tt b S n T :: l) w) : CallR Try.prog 39 [.slice q (cst (fs.map Fl.s)).length qc, .func (.func 41) #[.pointer (some ⟨b, 0, none⟩)] #[]] w (fun v w' => ∃ r c, v = .slice r (fs.map hd2).length c ∧ Sep (sls r (fs.map hd2).length c 29 2 ((fs.map hd2).flatMap e2) :: tableA tt b S n T :: l) w') := by
 refine enter Try.func39 rfl Try.ntmps39 (Nat.le_of_ble_eq_true rfl) ?_; intro aa hS
 have hcl : (cst (fs.map Fl.s)).length = fs.length := by rw [cst_len, List.length_map]
 refine wp_seq_k ?_; intro K499 hK499
 refine wp_region_lit ?_
 revert aa
 refine qN hR ?_
 intro aa hS
 refine wpList_nil ?_
 refine hK499 _ _ ?_
 refine wp_seq_k ?_; intro K500 hK500
 refine wp_region_lit ?_
 revert aa
 refine qN hR ?_
 intro aa hS
 refine wpList_nil ?_
 refine hK500 _ _ ?_
 refine wp_seq_k ?_; intro K501 hK501
 refine wp_seq_k ?_; intro K502 hK502
 refine wp_region_lit ?_
 revert aa
 refine qM hR ?_
 refine qA hR rfl (fun _ hS => Yld.len hS rfl Try.underlying58) ?_
 refine qM hR ?_
 intro aa hS
 refine wpList_nil ?_
 refine hK502 _ _ ?_
 refine wp_block ?_
 replace hR := hR.slsNil (T := 29) (sz := 2)
 replace hR := hR.pk (r := sls none 0 0 29 2 []) pkQ
 refine loopI (X := Nat × Option Addr × Nat) [(1, _), (4, _), (8, _), (9, _)] (fun x => [(5, .slice x.2.1 ((fs.take x.1).map hd2).length x.2.2), (10, .int .i64 (x.1 : Int))]) (fun x => [sls x.2.1 ((fs.take x.1).map hd2).length x.2.2 29 2 (((fs.take x.1).map hd2).flatMap e2)]) _ (fun x => x.1 ≤ fs.length) (fun x => fs.length - x.1) (0, none, 0) (Nat.zero_le _) (hS.le (Le.cons rfl (Le.cons rfl (Le.nilapp (Le.cons rfl (Le.cons rfl (Le.cons rfl (Le.cons rfl (Le.nil _))))))))) hR ?_
 clear hS hR; rintro ⟨i, r0, c0⟩ aa ww hI hS hR; dsimp only [List.cons_append, List.nil_append] at hI hS hR
 refine wp_seq_k ?_; intro K504 hK504
 refine wp_region_lit ?_
 refine sA hS hR (Yld.lss hS rfl rfl) (by decide) ?_; clear hS; intro aa hS
 refine wpList_nil ?_
 refine hK504 _ _ ?_
 refine wp_seq_k ?_; intro K505 hK505
 refine hS.splitB (t := 11) rfl ?_ ?_ <;> clear hS
 ·
  intro hg hS
  obtain ⟨f, hfi⟩ : ∃ y, fs[i]'(by omega) = y := ⟨_, rfl⟩
  have hf : f ∈ T.F := hfs f (hfi ▸ List.getElem_mem _)
  have htk := List.take_succ_eq_append_getElem (l := fs) (i := i) (by omega)
  rw [hfi] at htk
  have htl : ((fs.take i).map hd2).length = i := by rw [List.length_map, List.length_take]; omega
  refine condT hS rfl ?_
  refine wp_skip ?_
  refine hK505 _ _ ?_
  refine wp_seq_k ?_; intro K506 hK506
  refine wp_block ?_
  refine wp_seq_k ?_; intro K507 hK507
  refine wp_region_lit ?_
  revert aa
  refine qA hR rfl (fun _ hS => ilQ 1 (i) Try.underlying58 info3) ?_
  refine qA hR rfl (fun _ hS => Yld.load1 hS rfl Try.underlying3 rfl (Rd.rec0 (k := i) (xs := cst (fs.map Fl.s)) (v := .int .i64 (f.s : Int)) pkQ (by intro _; rfl) (by omega) (by rw [cst_get]; simp [hfi]; rfl))) ?_
  refine qN hR ?_
  intro aa hS
  refine wpList_nil ?_
  refine hK507 _ _ ?_
  refine wp_region_lit ?_
  revert aa
  refine qM hR ?_
  refine qM hR ?_
  refine qM hR ?_
  intro aa hS
  refine sB (BcallV (first := [.pointer (some ⟨b, 0, none⟩)]) (caps := []) hS rfl rfl Try.call41 (tbat_ok hf (hR.pk (r := tableA _ b _ _ _) pkQ)) (by decide) ?_); clear hS; intro aa ww vv hS hp
  clear hR
  obtain ⟨rfl, hR⟩ := hp
  refine sB (BbuildSlice hS hR rfl (bls38_1_0 _ _) (by decide) ?_); clear hS hR; intro aa ww bb18 hS hR
  refine sB (BappendR (sz := 2) hS hR rfl rfl Try.underlying38 info29 rfl rfl (by rfl) pkQ (XC.one (hd2 f) pkQ (by rfl) rfl) (by intro _; rfl) (by show (_ + _) * 16 ≤ _; exact lenQ) lenQ (by first | rfl | (simp; done) | (simp; omega)) (by decide) ?_); clear hS hR; intro aa ww r19 c19 hS hR
  have hsn : (fs.take i).map hd2 ++ [hd2 f] = (fs.take (i + 1)).map hd2 := by rw [htk, List.map_append]; rfl
  rw [hsn] at hS hR
  revert aa
  refine qN hR ?_
  intro aa hS
  refine wpList_nil ?_
  refine hK506 _ _ ?_
  refine wp_region_lit ?_
  refine sA hS hR adQ (by decide) ?_; clear hS; intro aa hS
  revert aa
  refine qM hR ?_
  intro aa hS
  refine wpList_nil ?_
  refine ⟨(i + 1, _, _), ?_, ?_, hS.le (Le.cons rfl (Le.cons rfl (Le.nilapp (Le.cons rfl (Le.cons rfl (Le.cons rfl (Le.cons rfl (Le.nil _)))))))), hR.sub (Ex.take pkQ (Ex.nilapp exQ))⟩
  ·
   dsimp only; omega
  ·
   dsimp only; omega
 ·
  intro hg hS
  obtain rfl : i = fs.length := by omega
  rw [List.take_length] at hS hR
  refine condF hS rfl ?_
  refine wp_exit ?_
  refine hK501 _ _ ?_
  refine wp_seq_k ?_; intro K508 hK508
  refine wp_region_lit ?_
  revert aa
  refine qM hR ?_
  refine qN hR ?_
  intro aa hS
  refine wpList_nil ?_
  refine hK508 _ _ ?_
  refine wp_ret ?_
  repeat first | with_reducible refine thenR ?_ | with_reducible refine blockR ?_ | with_reducible refine scopeR ?_
  refine ret1 (fn := Try.f39) (e := .ret) (.inl rfl) Try.results39 hS hR ⟨_, (.tmp rfl), ?_⟩
  have h9 : Sep (sls r0 (fs.map hd2).length c0 29 2 ((fs.map hd2).flatMap e2) :: tableA tt b S n T :: l) _ := (hR.sub exQ)
  exact ⟨r0, c0, rfl, h9⟩
theorem flow1_ok {T : Tb} {S n b : Nat} {l : List HP} {w : World} {f : Fl} {cf : Nat} (hf : f ∈ T.F) (hk : WfK f.k) (hR : Sep (blk cf [.pointer (some ⟨b, 0, none⟩)] 23 :: tableA tt b S n T :: l) w) : CallR Try.prog 88 [vK f.k, .pointer (some ⟨cf, 0, none⟩)] w (fun v w' => v = vH f.s f.u ∧ Sep (blk cf [.pointer (some ⟨b, 0, none⟩)] 23 :: tableA tt b S n T :: l) w') := by
 refine enter Try.func88 rfl Try.ntmps88 (Nat.le_of_ble_eq_true rfl) ?_; intro aa hS
 obtain ⟨bo, bb, ba, bl, r, c, K1, K2, L, ky, hT, hS4, hR⟩ := (hR.pk (r := tableA _ b _ _ _) pkQ).tableE
 dsimp only at hR
 have hTF := hT.tf
 have hkl := hT.len
 have hwl := (hR.pk (r := linksA _ _ _ bl _ _ _) pkQ).linksWL
 have hbk : Bk r := (hR.pk (r := sls r _ _ _ _ _) pkQ).bk (by have := hTF.ok.pos; have := hTF.size; omega)
 refine wp_seq_k ?_; intro K509 hK509
 refine wp_region_lit ?_
 refine sB (Bbox hS hR rfl (by rfl) (by decide) ?_); clear hS hR; intro aa ww bb2 hS hR
 refine sB (Balloc hS hR info29 (by rfl) (by rfl) (by decide) ?_); clear hS hR; intro aa ww bb3 hS hR
 refine wpList_nil ?_
 refine hK509 _ _ ?_
 refine wp_seq_k ?_; intro K510 hK510
 refine drawn krQ hR Ex.refl ?_; clear hR; intro ww hR hR0
 revert aa
 refine eA 0 rfl krQ (fun _ _ _ h => h) hR0 rfl (fun _ hS => Yld.load1 hS rfl Try.underlying23 rfl rdQ) ?_
 refine eA 1 rfl krQ (fun _ _ _ h => h) hR0 rfl (fun _ hS => Yld.nilCheck hS rfl) ?_
 refine eA 2 rfl krQ (fun _ _ _ h => h) hR0 rfl (fun _ hS => Yld.fieldAddr hS rfl 0 Try.underlying81 rfl rfl info77 (by decide)) ?_
 refine eA 3 rfl krQ (fun _ _ _ h => h) hR0 rfl (fun _ hS => Yld.fieldAddr hS rfl 0 Try.underlying77 rfl rfl info75 (by decide)) ?_
 refine eA 4 rfl krQ (fun _ _ _ h => h) hR0 rfl (fun _ hS => Yld.load1 hS rfl Try.underlying75 rfl rdQ) ?_
 intro aa hS
 refine dA 5 rfl krQ krQ krQ (fun _ _ _ h => h) hS hR0 (Yld.loadAgg hS rfl Try.underlying35 rfl info35 rdsQ5 (by rfl)) (by decide) ?_; clear hS; intro aa hS
 refine dOne (i := 6) krQ ?_
 refine dop rfl (Bcall hS rfl Try.call36 (Get_ok (k := f.k) (hR.pk (r := trieA _ _ _ bo _ _) pkQ) hk) (by decide) ?_); clear hS; intro aa ww vv hS hp
 clear hR hR0
 obtain ⟨rfl, hR⟩ := hp
 rw [hT.get1 f.k, own_find hTF hf] at hS
 dsimp only [Option.getD, Option.isSome] at hS
 refine dnext (hR.sub exQ) ?_; intro hR0
 revert aa
 refine eA 7 rfl krQ (fun _ _ _ h => h) hR0 rfl (fun _ hS => Yld.move hS rfl) ?_
 refine eA 8 rfl krQ (fun _ _ _ h => h) hR0 rfl (fun _ hS => Yld.extract hS rfl rfl) ?_
 refine eA 9 rfl krQ (fun _ _ _ h => h) hR0 rfl (fun _ hS => Yld.extract hS rfl rfl) ?_
 refine eA 10 rfl krQ (fun _ _ _ h => h) hR0 rfl (fun _ hS => Yld.assign hS rfl) ?_
 refine eA 11 rfl krQ (fun _ _ _ h => h) hR0 rfl (fun _ hS => Yld.assign hS rfl) ?_
 intro aa hS
 refine wpAnyH_done krQ ?_ _; clear hR0
 refine hK510 _ _ ?_
 refine wp_seq_k ?_; intro K511 hK511
 refine wp_region_lit ?_
 try (replace hR := Sep.tableI (t := tt) (b := b) (T := T) hT hS4 (hR.sub exQ))
 revert aa
 refine qA hR rfl (fun _ hS => Yld.load1 hS rfl Try.underlying23 rfl rdQ) ?_
 refine qM hR ?_
 intro aa hS
 refine sB (Bcall hS rfl Try.call41 (tbat_ok hf (hR.pk (r := tableA _ b _ _ _) pkQ)) (by decide) ?_); clear hS; intro aa ww vv hS hp
 clear hR
 obtain ⟨rfl, hR⟩ := hp
 refine sB (Bstore hS hR rfl rfl (by rfl) info29 (by rfl) pkQ (by rfl) (Nat.le_of_ble_eq_true rfl) ?_); clear hR; intro ww hR
 refine wpList_nil ?_
 refine hK511 _ _ ?_
 refine wp_ret ?_
 repeat first | with_reducible refine thenR ?_ | with_reducible refine blockR ?_ | with_reducible refine scopeR ?_
 refine ret1 (fn := Try.f88) (e := .ret) (.inl rfl) Try.results88 hS hR ⟨_, (.agg rfl Try.underlying29 rfl info29 (Rds.cons (Rd.blk pkQ (by rfl)) (Rds.cons (Rd.blk pkQ (by rfl)) (Rds.nil))) (by rfl)), ?_⟩
 try dsimp only [lay, List.set] at hR
 exact ⟨rfl, (hR.sub exQ)⟩
theorem eachK_ok {T : Tb} {S n b : Nat} {l : List HP} {w : World} {ks : List Ky} {q : Option Addr} {qc cf : Nat} (hTF : TF S n T) (hks : ∀ y ∈ ks, ∃ f ∈ T.F, f.k = y) (hl : ks.length ≤ 9000) (hR : Sep (sls q ks.length qc 35 5 (ks.flatMap eK) :: blk cf [.pointer (some ⟨b, 0, none⟩)] 23 :: tableA tt b S n T :: l) w) : CallR Try.prog 87 [.slice q ks.length qc, .func (.func 88) #[] #[.pointer (some ⟨cf, 0, none⟩)]] w (fun v w' => ∃ r c, v = .slice r (ks.map (hOfK T.F)).length c ∧ Sep (sls r (ks.map (hOfK T.F)).length c 29 2 ((ks.map (hOfK T.F)).flatMap e2) :: tableA tt b S n T :: l) w') := by
 refine enter Try.func87 rfl Try.ntmps87 (Nat.le_of_ble_eq_true rfl) ?_; intro aa hS
 refine wp_seq_k ?_; intro K512 hK512
 refine wp_region_lit ?_
 revert aa
 refine qN hR ?_
 intro aa hS
 refine wpList_nil ?_
 refine hK512 _ _ ?_
 refine wp_seq_k ?_; intro K513 hK513
 refine wp_region_lit ?_
 revert aa
 refine qN hR ?_
 intro aa hS
 refine wpList_nil ?_
 refine hK513 _ _ ?_
 refine wp_seq_k ?_; intro K514 hK514
 refine wp_seq_k ?_; intro K515 hK515
 refine wp_region_lit ?_
 revert aa
 refine qM hR ?_
 refine qA hR rfl (fun _ hS => Yld.len hS rfl Try.underlying24) ?_
 refine qM hR ?_
 intro aa hS
 refine wpList_nil ?_
 refine hK515 _ _ ?_
 refine wp_block ?_
 replace hR := hR.slsNil (T := 29) (sz := 2)
 replace hR := hR.pk (r := sls none 0 0 29 2 []) pkQ
 refine loopI (X := Nat × Option Addr × Nat) [(1, _), (4, _), (8, _), (9, _)] (fun x => [(5, .slice x.2.1 ((ks.take x.1).map (hOfK T.F)).length x.2.2), (10, .int .i64 (x.1 : Int))]) (fun x => [sls x.2.1 ((ks.take x.1).map (hOfK T.F)).length x.2.2 29 2 (((ks.take x.1).map (hOfK T.F)).flatMap e2)]) _ (fun x => x.1 ≤ ks.length) (fun x => ks.length - x.1) (0, none, 0) (Nat.zero_le _) (hS.le (Le.cons rfl (Le.cons rfl (Le.nilapp (Le.cons rfl (Le.cons rfl (Le.cons rfl (Le.cons rfl (Le.nil _))))))))) hR ?_
 clear hS hR; rintro ⟨i, r0, c0⟩ aa ww hI hS hR; dsimp only [List.cons_append, List.nil_append] at hI hS hR
 refine wp_seq_k ?_; intro K517 hK517
 refine wp_region_lit ?_
 refine sA hS hR (Yld.lss hS rfl rfl) (by decide) ?_; clear hS; intro aa hS
 refine wpList_nil ?_
 refine hK517 _ _ ?_
 refine wp_seq_k ?_; intro K518 hK518
 refine hS.splitB (t := 11) rfl ?_ ?_ <;> clear hS
 ·
  intro hg hS
  obtain ⟨f, hf, hfk0⟩ := hks (ks[i]'(by omega)) (List.getElem_mem _)
  have hfk : ks[i]'(by omega) = f.k := hfk0.symm
  have hfw := hTF.wf f hf
  have htk := List.take_succ_eq_append_getElem (l := ks) (i := i) (by omega)
  rw [hfk] at htk
  have htl : ((ks.take i).map (hOfK T.F)).length = i := by rw [List.length_map, List.length_take]; omega
  refine condT hS rfl ?_
  refine wp_skip ?_
  refine hK518 _ _ ?_
  refine wp_seq_k ?_; intro K519 hK519
  refine wp_block ?_
  refine wp_seq_k ?_; intro K520 hK520
  refine wp_region_lit ?_
  revert aa
  refine qA hR rfl (fun _ hS => ilQ 5 (i) Try.underlying24 info35) ?_
  refine qA hR rfl (fun _ hS => Yld.loadAgg (vs := eK f.k) hS rfl Try.underlying35 rfl info35 (hfk ▸ Rds.rec (enc := eK) (xs := ks) (k := i) pkQ (by intro _; rfl) (by omega)) (by rfl)) ?_
  intro aa hS
  refine sB (Balloc hS hR info35 (by rfl) (by rfl) (by decide) ?_); clear hS hR; intro aa ww bb7 hS hR
  refine sB (Bstore hS hR rfl rfl (by rfl) info35 (by rfl) pkQ (by rfl) (Nat.le_of_ble_eq_true rfl) ?_); clear hR; intro ww hR
  refine wpList_nil ?_
  refine hK520 _ _ ?_
  refine wp_region_lit ?_
  revert aa
  refine qM hR ?_
  refine qM hR ?_
  intro aa hS
  refine sA hS hR (Yld.loadAgg hS rfl Try.underlying35 rfl info35 rdsQ5 (by rfl)) (by decide) ?_; clear hS; intro aa hS
  refine sB (BcallV (first := []) (caps := [.pointer (some ⟨cf, 0, none⟩)]) hS rfl rfl Try.call88 (flow1_ok hf hfw ((hR.pk (r := tableA _ b _ _ _) pkQ).pk (r := blk cf _ _) pkQ)) (by decide) ?_); clear hS; intro aa ww vv hS hp
  clear hR
  obtain ⟨rfl, hR⟩ := hp
  refine sB (BbuildSlice hS hR rfl (bls38_1_0 _ _) (by decide) ?_); clear hS hR; intro aa ww bb18 hS hR
  refine sB (BappendR (sz := 2) hS hR rfl rfl Try.underlying38 info29 rfl rfl (by rfl) pkQ (XC.one (hd2 f) pkQ (by rfl) rfl) (by intro _; rfl) (by show (_ + _) * 16 ≤ _; exact lenQ) lenQ (by first | rfl | (simp; done) | (simp; omega)) (by decide) ?_); clear hS hR; intro aa ww r19 c19 hS hR
  have hsn : (ks.take i).map (hOfK T.F) ++ [hd2 f] = (ks.take (i + 1)).map (hOfK T.F) := by rw [htk, List.map_append, List.map_cons, List.map_nil, hTF.hOfK hf]
  rw [hsn] at hS hR
  revert aa
  refine qN hR ?_
  intro aa hS
  refine wpList_nil ?_
  refine hK519 _ _ ?_
  refine wp_region_lit ?_
  refine sA hS hR adQ (by decide) ?_; clear hS; intro aa hS
  revert aa
  refine qM hR ?_
  intro aa hS
  refine wpList_nil ?_
  refine ⟨(i + 1, _, _), ?_, ?_, hS.le (Le.cons rfl (Le.cons rfl (Le.nilapp (Le.cons rfl (Le.cons rfl (Le.cons rfl (Le.cons rfl (Le.nil _)))))))), hR.sub (Ex.take pkQ (Ex.nilapp exQ))⟩
  ·
   dsimp only; omega
  ·
   dsimp only; omega
 ·
  intro hg hS
  obtain rfl : i = ks.length := by omega
  rw [List.take_length] at hS hR
  refine condF hS rfl ?_
  refine wp_exit ?_
  refine hK514 _ _ ?_
  refine wp_seq_k ?_; intro K521 hK521
  refine wp_region_lit ?_
  revert aa
  refine qM hR ?_
  refine qN hR ?_
  intro aa hS
  refine wpList_nil ?_
  refine hK521 _ _ ?_
  refine wp_ret ?_
  repeat first | with_reducible refine thenR ?_ | with_reducible refine blockR ?_ | with_reducible refine scopeR ?_
  refine ret1 (fn := Try.f87) (e := .ret) (.inl rfl) Try.results87 hS hR ⟨_, (.tmp rfl), ?_⟩
  have h9 : Sep (sls r0 (ks.map (hOfK T.F)).length c0 29 2 ((ks.map (hOfK T.F)).flatMap e2) :: tableA tt b S n T :: l) _ := (hR.sub exQ)
  exact ⟨r0, c0, rfl, h9⟩
end Go.Proofs.Ythhndmlfgjcgpaa.Sx
