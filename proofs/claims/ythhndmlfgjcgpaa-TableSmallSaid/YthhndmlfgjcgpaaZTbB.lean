/-
 
-/
import Derived.Test.YthhndmlfgjcgpaaZTbA
namespace Go.Proofs.Ythhndmlfgjcgpaa.Sx
open Go
set_option maxRecDepth 20000
set_option linter.unusedVariables false
set_option linter.unusedSimpArgs false
theorem TbOut_no {T : Tb} {S n b : Nat} {l : List HP} {w : World} {s u : Int} (hn : ¬ T.A.at s = some u) (hR : Sep (tableA tt b S n T :: l) w) : CallR Try.prog 21 [.pointer (some ⟨b, 0, none⟩), .agg [.int .i64 s, .int .i64 u].toArray] w (fun v w' => v = .tuple [vK k0, .int .i64 6].toArray ∧ Sep (tableA tt b S n T :: l) w') := by
 refine enter Try.func21 rfl Try.ntmps21 (Nat.le_of_ble_eq_true rfl) ?_; intro aa hS
 obtain ⟨bo, bb, ba, bl, r, c, K1, K2, L, ky, hT, hS4, hR⟩ := (hR.pk (r := tableA _ b _ _ _) pkQ).tableE
 dsimp only at hR
 have hTF := hT.tf
 have hkl := hT.len
 have hwl := (hR.pk (r := linksA _ _ _ bl _ _ _) pkQ).linksWL
 have hbk : Bk r := (hR.pk (r := sls r _ _ _ _ _) pkQ).bk (by have := hTF.ok.pos; have := hTF.size; omega)
 refine wp_seq_k ?_; intro K431 hK431
 refine wp_region_lit ?_
 refine sB (Bbox hS hR rfl (by rfl) (by decide) ?_); clear hS hR; intro aa ww bb3 hS hR
 refine sB (Balloc hS hR info35 (by rfl) (by rfl) (by decide) ?_); clear hS hR; intro aa ww bb4 hS hR
 revert aa
 refine qN hR ?_
 intro aa hS
 refine wpList_nil ?_
 refine hK431 _ _ ?_
 refine wp_seq_k ?_; intro K432 hK432
 refine wp_seq_k ?_; intro K433 hK433
 refine wp_region_lit ?_
 revert aa
 refine qM hR ?_
 intro aa hS
 refine sB (Bcall hS rfl Try.call35 (tbsome_ok (hR.pk (r := blk b _ _) pkQ)) (by decide) ?_); clear hS; intro aa ww vv hS hp
 clear hR
 obtain ⟨rfl, hR⟩ := hp
 refine sA hS hR (Yld.not hS rfl) (by decide) ?_; clear hS; intro aa hS
 refine wpList_nil ?_
 refine hK433 _ _ ?_
 refine condF hS rfl ?_
 refine wp_skip ?_
 refine hK432 _ _ ?_
 refine wp_seq_k ?_; intro K434 hK434
 refine wp_seq_k ?_; intro K435 hK435
 refine drawn krQ hR (Ex.of_pk (r := arena _ _ ba _) pkQ) ?_; clear hR; intro ww hR hR0
 revert aa
 refine eA 0 rfl krQ (fun _ _ _ h => h) hR0 rfl (fun _ hS => Yld.move hS rfl) ?_
 refine eA 1 rfl krQ (fun _ _ _ h => h) hR0 rfl (fun _ hS => Yld.nilCheck hS rfl) ?_
 refine eA 2 rfl krQ (fun _ _ _ h => h) hR0 rfl (fun _ hS => Yld.fieldAddr hS rfl 2 Try.underlying81 rfl rfl info78 (by decide)) ?_
 refine eA 3 rfl krQ (fun _ _ _ h => h) hR0 rfl (fun _ hS => Yld.load1 hS rfl Try.underlying78 rfl rdQ) ?_
 intro aa hS
 refine dA 4 rfl krQ krQ krQ (fun _ _ _ h => h) hS hR0 (Yld.loadAgg hS rfl Try.underlying29 rfl info29 rdsQ2 (by rfl)) (by decide) ?_; clear hS; intro aa hS
 refine dOne (i := 5) krQ ?_
 refine dop rfl (Bcall hS rfl Try.call53 (Give_okA (s := s) (u := u) (hR.pk (r := arena _ _ ba _) pkQ)) (by decide) ?_); clear hS; intro aa ww vv hS hp
 clear hR hR0
 obtain ⟨rfl, hR⟩ := hp
 rw [Ar.giveH_no hn] at hR; rw [show T.A.giveE s u = 6 from if_neg hn] at hS
 refine dnext (hR.sub exQ) ?_; intro hR0
 revert aa
 refine eA 6 rfl krQ (fun _ _ _ h => h) hR0 rfl (fun _ hS => Yld.assign hS rfl) ?_
 intro aa hS
 refine wpAnyH_done krQ ?_ _; clear hR0
 refine hK435 _ _ ?_
 refine wp_seq_k ?_; intro K436 hK436
 refine wp_region_lit ?_
 revert aa
 refine qM hR ?_
 refine qA hR rfl (fun _ hS => Yld.neq hS rfl rfl) ?_
 refine qB (t := 19) true rfl (by simp) ?_
 intro aa hS
 refine wpList_nil ?_
 refine hK436 _ _ ?_
 refine condT hS rfl ?_
 refine wp_seq_k ?_; intro K437 hK437
 refine wp_region_lit ?_
 revert aa
 refine qA hR rfl (fun _ hS => Yld.build hS rfl (bld35_)) ?_
 refine qM hR ?_
 intro aa hS
 refine sB (Bstore hS hR rfl rfl (by rfl) info35 (by rfl) pkQ (by rfl) (Nat.le_of_ble_eq_true rfl) ?_); clear hR; intro ww hR
 revert aa
 refine qN hR ?_
 intro aa hS
 refine wpList_nil ?_
 refine hK437 _ _ ?_
 refine wp_ret ?_
 repeat first | with_reducible refine thenR ?_ | with_reducible refine blockR ?_ | with_reducible refine scopeR ?_
 refine retN (fn := Try.f21) (e := .ret) (.inl rfl) Try.results21 hS hR ⟨_, .cons (.agg rfl Try.underlying35 rfl info35 (Rds.cons (Rd.blk pkQ (by rfl)) (Rds.cons (Rd.blk pkQ (by rfl)) (Rds.cons (Rd.blk pkQ (by rfl)) (Rds.cons (Rd.blk pkQ (by rfl)) (Rds.cons (Rd.blk pkQ (by rfl)) (Rds.nil)))))) (by rfl)) (.cons (.tmp rfl) (.nil)), rfl, ?_⟩
 try dsimp only [lay, List.set] at hR
 exact ⟨rfl, Sep.tableI (t := tt) (b := b) (T := T) hT hS4 (hR.sub exQ)⟩
set_option maxHeartbeats 1000000 in
theorem TbOut_ok {T : Tb} {S n b : Nat} {l : List HP} {w : World} {f : Fl} (hf : f ∈ T.F) (hR : Sep (tableA tt b S n T :: l) w) : CallR Try.prog 21 [.pointer (some ⟨b, 0, none⟩), .agg [.int .i64 (f.s : Int), .int .i64 f.u].toArray] w (fun v w' => v = .tuple [vK f.k, .int .i64 0].toArray ∧ Sep (tableA tt b S n (T.out f.s) :: l) w') := by
 refine enter Try.func21 rfl Try.ntmps21 (Nat.le_of_ble_eq_true rfl) ?_; intro aa hS
 obtain ⟨bo, bb, ba, bl, r, c, K1, K2, L, ky, hT, hS4, hR⟩ := (hR.pk (r := tableA _ b _ _ _) pkQ).tableE
 dsimp only at hR
 have hTF := hT.tf
 have hkl := hT.len
 have hwl := (hR.pk (r := linksA _ _ _ bl _ _ _) pkQ).linksWL
 have hbk : Bk r := (hR.pk (r := sls r _ _ _ _ _) pkQ).bk (by have := hTF.ok.pos; have := hTF.size; omega)
 obtain ⟨hfl, hkf⟩ := List.getElem?_eq_some_iff.1 (hT.key f hf)
 obtain ⟨hfs, hft, hfu⟩ := hTF.slot hf
 have hat := hTF.atf hf
 have hkw := hTF.wf f hf
 refine wp_seq_k ?_; intro K438 hK438
 refine wp_region_lit ?_
 refine sB (Bbox hS hR rfl (by rfl) (by decide) ?_); clear hS hR; intro aa ww bb3 hS hR
 refine sB (Balloc hS hR info35 (by rfl) (by rfl) (by decide) ?_); clear hS hR; intro aa ww bb4 hS hR
 revert aa
 refine qN hR ?_
 intro aa hS
 refine wpList_nil ?_
 refine hK438 _ _ ?_
 refine wp_seq_k ?_; intro K439 hK439
 refine wp_seq_k ?_; intro K440 hK440
 refine wp_region_lit ?_
 revert aa
 refine qM hR ?_
 intro aa hS
 refine sB (Bcall hS rfl Try.call35 (tbsome_ok (hR.pk (r := blk b _ _) pkQ)) (by decide) ?_); clear hS; intro aa ww vv hS hp
 clear hR
 obtain ⟨rfl, hR⟩ := hp
 refine sA hS hR (Yld.not hS rfl) (by decide) ?_; clear hS; intro aa hS
 refine wpList_nil ?_
 refine hK440 _ _ ?_
 refine condF hS rfl ?_
 refine wp_skip ?_
 refine hK439 _ _ ?_
 refine wp_seq_k ?_; intro K441 hK441
 refine wp_seq_k ?_; intro K442 hK442
 refine drawn krQ hR (Ex.of_pk (r := arena _ _ ba _) pkQ) ?_; clear hR; intro ww hR hR0
 revert aa
 refine eA 0 rfl krQ (fun _ _ _ h => h) hR0 rfl (fun _ hS => Yld.move hS rfl) ?_
 refine eA 1 rfl krQ (fun _ _ _ h => h) hR0 rfl (fun _ hS => Yld.nilCheck hS rfl) ?_
 refine eA 2 rfl krQ (fun _ _ _ h => h) hR0 rfl (fun _ hS => Yld.fieldAddr hS rfl 2 Try.underlying81 rfl rfl info78 (by decide)) ?_
 refine eA 3 rfl krQ (fun _ _ _ h => h) hR0 rfl (fun _ hS => Yld.load1 hS rfl Try.underlying78 rfl rdQ) ?_
 intro aa hS
 refine dA 4 rfl krQ krQ krQ (fun _ _ _ h => h) hS hR0 (Yld.loadAgg hS rfl Try.underlying29 rfl info29 rdsQ2 (by rfl)) (by decide) ?_; clear hS; intro aa hS
 refine dOne (i := 5) krQ ?_
 refine dop rfl (Bcall hS rfl Try.call53 (Give_okA (s := (f.s : Int)) (u := f.u) (hR.pk (r := arena _ _ ba _) pkQ)) (by decide) ?_); clear hS; intro aa ww vv hS hp
 clear hR hR0
 obtain ⟨rfl, hR⟩ := hp
 rw [Ar.giveH_yes hat] at hR; rw [show T.A.giveE (f.s : Int) f.u = 0 from if_pos hat] at hS
 refine dnext (hR.sub exQ) ?_; intro hR0
 revert aa
 refine eA 6 rfl krQ (fun _ _ _ h => h) hR0 rfl (fun _ hS => Yld.assign hS rfl) ?_
 intro aa hS
 refine wpAnyH_done krQ ?_ _; clear hR0
 refine hK442 _ _ ?_
 refine wp_seq_k ?_; intro K443 hK443
 refine wp_region_lit ?_
 revert aa
 refine qM hR ?_
 refine qA hR rfl (fun _ hS => Yld.neq hS rfl rfl) ?_
 refine qB (t := 19) false rfl (by simp) ?_
 intro aa hS
 refine wpList_nil ?_
 refine hK443 _ _ ?_
 refine condF hS rfl ?_
 refine wp_skip ?_
 refine hK441 _ _ ?_
 refine wp_seq_k ?_; intro K444 hK444
 refine drawn krQ hR Ex.refl ?_; clear hR; intro ww hR hR0
 revert aa
 refine eA 0 rfl krQ (fun _ _ _ h => h) hR0 rfl (fun _ hS => Yld.move hS rfl) ?_
 refine eA 1 rfl krQ (fun _ _ _ h => h) hR0 rfl (fun _ hS => Yld.nilCheck hS rfl) ?_
 refine eA 2 rfl krQ (fun _ _ _ h => h) hR0 rfl (fun _ hS => Yld.fieldAddr hS rfl 4 Try.underlying81 rfl rfl info24 (by decide)) ?_
 refine eA 3 rfl krQ (fun _ _ _ h => h) hR0 rfl (fun _ hS => Yld.load1 hS rfl Try.underlying24 rfl rdQ) ?_
 refine eA 4 rfl krQ (fun _ _ _ h => h) hR0 rfl (fun _ hS => Yld.fieldAddr hS rfl 0 Try.underlying29 rfl rfl info3 (by decide)) ?_
 refine eA 5 rfl krQ (fun _ _ _ h => h) hR0 rfl (fun _ hS => Yld.load1 hS rfl Try.underlying3 rfl rdQ) ?_
 refine eA 6 rfl krQ (fun _ _ _ h => h) hR0 rfl (fun _ hS => Yld.indexH (sz := 5) (f.s) hS rfl rfl Try.underlying24 info35 hbk rfl (by first | rfl | omega) (by omega)) ?_
 refine eA 7 rfl krQ (fun _ _ _ h => h) hR0 rfl (fun _ hS => Yld.loadAgg (vs := eK f.k) hS rfl Try.underlying35 rfl info35 (hkf ▸ Rds.rec (enc := eK) (xs := ky) (k := f.s) pkQ (by intro _; rfl) hfl) (by rfl)) ?_
 intro aa hS
 refine dOne (i := 8) krQ ?_
 refine dop rfl (Balloc hS hR info35 (by rfl) (by rfl) (by decide) ?_); clear hS hR hR0; intro aa ww bb7 hS hR
 refine dnext (hR.sub exQ) ?_; intro hR0
 refine dOne (i := 9) krQ ?_
 refine dop rfl (Bstore hS hR rfl rfl (by rfl) info35 (by rfl) pkQ (by rfl) (Nat.le_of_ble_eq_true rfl) ?_); clear hR hR0; intro ww hR
 refine dnext (hR.sub exQ) ?_; intro hR0
 refine wpAnyH_done krQ ?_ _; clear hR0
 refine hK444 _ _ ?_
 refine wp_seq_k ?_; intro K445 hK445
 refine drawn krQ hR (Ex.of_pk (r := trieA _ _ _ bo _ _) pkQ) ?_; clear hR; intro ww hR hR0
 revert aa
 refine eA 0 rfl krQ (fun _ _ _ h => h) hR0 rfl (fun _ hS => Yld.move hS rfl) ?_
 refine eA 1 rfl krQ (fun _ _ _ h => h) hR0 rfl (fun _ hS => Yld.nilCheck hS rfl) ?_
 refine eA 2 rfl krQ (fun _ _ _ h => h) hR0 rfl (fun _ hS => Yld.fieldAddr hS rfl 0 Try.underlying81 rfl rfl info77 (by decide)) ?_
 refine eA 3 rfl krQ (fun _ _ _ h => h) hR0 rfl (fun _ hS => Yld.fieldAddr hS rfl 0 Try.underlying77 rfl rfl info75 (by decide)) ?_
 refine eA 4 rfl krQ (fun _ _ _ h => h) hR0 rfl (fun _ hS => Yld.load1 hS rfl Try.underlying75 rfl rdQ) ?_
 intro aa hS
 refine dA 5 rfl krQ krQ krQ (fun _ _ _ h => h) hS hR0 (Yld.loadAgg hS rfl Try.underlying35 rfl info35 rdsQ5 (by rfl)) (by decide) ?_; clear hS; intro aa hS
 refine dOne (i := 6) krQ ?_
 refine dop rfl (Bcall hS rfl Try.call54 (Out_ok (k := f.k) (hR.pk (r := trieA _ _ _ bo _ _) pkQ) hkw) (by decide) ?_); clear hS; intro aa ww vv hS hp
 clear hR hR0
 obtain ⟨rfl, hR⟩ := hp
 refine dnext (hR.sub exQ) ?_; intro hR0
 refine wpAnyH_done krQ ?_ _; clear hR0
 refine hK445 _ _ ?_
 refine wp_seq_k ?_; intro K446 hK446
 refine drawn krQ hR (Ex.of_pk (r := trieA _ _ _ bb _ _) pkQ) ?_; clear hR; intro ww hR hR0
 revert aa
 refine eA 0 rfl krQ (fun _ _ _ h => h) hR0 rfl (fun _ hS => Yld.move hS rfl) ?_
 refine eA 1 rfl krQ (fun _ _ _ h => h) hR0 rfl (fun _ hS => Yld.nilCheck hS rfl) ?_
 refine eA 2 rfl krQ (fun _ _ _ h => h) hR0 rfl (fun _ hS => Yld.fieldAddr hS rfl 0 Try.underlying81 rfl rfl info77 (by decide)) ?_
 refine eA 3 rfl krQ (fun _ _ _ h => h) hR0 rfl (fun _ hS => Yld.fieldAddr hS rfl 1 Try.underlying77 rfl rfl info75 (by decide)) ?_
 refine eA 4 rfl krQ (fun _ _ _ h => h) hR0 rfl (fun _ hS => Yld.load1 hS rfl Try.underlying75 rfl rdQ) ?_
 intro aa hS
 refine dA 5 rfl krQ krQ krQ (fun _ _ _ h => h) hS hR0 (Yld.loadAgg hS rfl Try.underlying35 rfl info35 rdsQ5 (by rfl)) (by decide) ?_; clear hS; intro aa hS
 refine dOne (i := 6) krQ ?_
 refine dop rfl (Bcall hS rfl Try.call16 (Turn_ok (k := f.k) hR) (by decide) ?_); clear hS; intro aa ww vv hS hp
 clear hR hR0
 obtain ⟨rfl, hR⟩ := hp
 refine dnext (hR.sub exQ) ?_; intro hR0
 refine dOne (i := 7) krQ ?_
 refine dop rfl (Bcall hS rfl Try.call54 (Out_ok (k := trn f.k) (hR.pk (r := trieA _ _ _ bb _ _) pkQ) (trn_wf hkw)) (by decide) ?_); clear hS; intro aa ww vv hS hp
 clear hR hR0
 obtain ⟨rfl, hR⟩ := hp
 refine dnext (hR.sub exQ) ?_; intro hR0
 refine wpAnyH_done krQ ?_ _; clear hR0
 refine hK446 _ _ ?_
 refine wp_seq_k ?_; intro K447 hK447
 refine drawn krQ hR (Ex.of_pk (r := linksA _ _ _ bl _ _ _) pkQ) ?_; clear hR; intro ww hR hR0
 revert aa
 refine eA 0 rfl krQ (fun _ _ _ h => h) hR0 rfl (fun _ hS => Yld.move hS rfl) ?_
 refine eA 1 rfl krQ (fun _ _ _ h => h) hR0 rfl (fun _ hS => Yld.nilCheck hS rfl) ?_
 refine eA 2 rfl krQ (fun _ _ _ h => h) hR0 rfl (fun _ hS => Yld.fieldAddr hS rfl 3 Try.underlying81 rfl rfl info79 (by decide)) ?_
 refine eA 3 rfl krQ (fun _ _ _ h => h) hR0 rfl (fun _ hS => Yld.load1 hS rfl Try.underlying79 rfl rdQ) ?_
 refine eA 4 rfl krQ (fun _ _ _ h => h) hR0 rfl (fun _ hS => Yld.fieldAddr hS rfl 0 Try.underlying29 rfl rfl info3 (by decide)) ?_
 refine eA 5 rfl krQ (fun _ _ _ h => h) hR0 rfl (fun _ hS => Yld.load1 hS rfl Try.underlying3 rfl rdQ) ?_
 intro aa hS
 refine dOne (i := 6) krQ ?_
 refine dop rfl (Bcall hS rfl Try.call44 (LOut_ok (x := (f.s : Int)) (hR.pk (r := linksA _ _ _ bl _ _ _) pkQ)) (by decide) ?_); clear hS; intro aa ww vv hS hp
 clear hR hR0
 obtain ⟨rfl, hR⟩ := hp
 refine dnext (hR.sub exQ) ?_; intro hR0
 refine wpAnyH_done krQ ?_ _; clear hR0
 refine hK447 _ _ ?_
 refine wp_seq_k ?_; intro K448 hK448
 refine wp_region_lit ?_
 refine sA hS hR (Yld.loadAgg hS rfl Try.underlying35 rfl info35 rdsQ5 (by rfl)) (by decide) ?_; clear hS; intro aa hS
 refine sB (Bstore hS hR rfl rfl (by rfl) info35 (by rfl) pkQ (by rfl) (Nat.le_of_ble_eq_true rfl) ?_); clear hR; intro ww hR
 revert aa
 refine qN hR ?_
 intro aa hS
 refine wpList_nil ?_
 refine hK448 _ _ ?_
 refine wp_ret ?_
 repeat first | with_reducible refine thenR ?_ | with_reducible refine blockR ?_ | with_reducible refine scopeR ?_
 refine retN (fn := Try.f21) (e := .ret) (.inl rfl) Try.results21 hS hR ⟨_, .cons (.agg rfl Try.underlying35 rfl info35 (Rds.cons (Rd.blk pkQ (by rfl)) (Rds.cons (Rd.blk pkQ (by rfl)) (Rds.cons (Rd.blk pkQ (by rfl)) (Rds.cons (Rd.blk pkQ (by rfl)) (Rds.cons (Rd.blk pkQ (by rfl)) (Rds.nil)))))) (by rfl)) (.cons (.tmp rfl) (.nil)), rfl, ?_⟩
 try dsimp only [lay, List.set] at hR
 exact ⟨rfl, Sep.tableI (t := tt) (b := b) (T := (T.out f.s)) (hT.out hf hwl) hS4 (hR.sub exQ)⟩
theorem TbOut {T : Tb} {S n b : Nat} {l : List HP} {w : World} {s u : Int} (hR : Sep (tableA tt b S n T :: l) w) : CallR Try.prog 21 [.pointer (some ⟨b, 0, none⟩), .agg [.int .i64 s, .int .i64 u].toArray] w (fun v w' => v = .tuple [vK (outR T s u).1, .int .i64 (outR T s u).2].toArray ∧ Sep (tableA tt b S n (outN T s u) :: l) w') := by
 obtain ⟨bo, bb, ba, bl, r, c, K1, K2, L, ky, hT, hS4, hR⟩ := hR.tableE
 have hTF := hT.tf
 replace hR := Sep.tableI hT hS4 hR
 unfold outR outN
 cases hg : getF T.F s u with
 | none => exact TbOut_no (fun h => by have := (getF_at hTF).2 h; rw [hg] at this; cases this) hR
 | some f =>
  obtain ⟨hf, h1, h2⟩ := (getF_mem hTF).1 hg
  subst h1 h2
  exact TbOut_ok hf hR
theorem TbKey_no {T : Tb} {S n b : Nat} {l : List HP} {w : World} {s u : Int} (hn : ¬ T.A.at s = some u) (hR : Sep (tableA tt b S n T :: l) w) : CallR Try.prog 22 [.pointer (some ⟨b, 0, none⟩), .agg [.int .i64 s, .int .i64 u].toArray] w (fun v w' => v = .tuple [vK k0, .bool false].toArray ∧ Sep (tableA tt b S n T :: l) w') := by
 refine enter Try.func22 rfl Try.ntmps22 (Nat.le_of_ble_eq_true rfl) ?_; intro aa hS
 obtain ⟨bo, bb, ba, bl, r, c, K1, K2, L, ky, hT, hS4, hR⟩ := (hR.pk (r := tableA _ b _ _ _) pkQ).tableE
 dsimp only at hR
 have hTF := hT.tf
 have hkl := hT.len
 have hwl := (hR.pk (r := linksA _ _ _ bl _ _ _) pkQ).linksWL
 have hbk : Bk r := (hR.pk (r := sls r _ _ _ _ _) pkQ).bk (by have := hTF.ok.pos; have := hTF.size; omega)
 refine wp_seq_k ?_; intro K449 hK449
 refine wp_region_lit ?_
 refine sB (Bbox hS hR rfl (by rfl) (by decide) ?_); clear hS hR; intro aa ww bb3 hS hR
 refine sB (Balloc hS hR info35 (by rfl) (by rfl) (by decide) ?_); clear hS hR; intro aa ww bb4 hS hR
 revert aa
 refine qN hR ?_
 intro aa hS
 refine wpList_nil ?_
 refine hK449 _ _ ?_
 refine wp_seq_k ?_; intro K450 hK450
 refine wp_seq_k ?_; intro K451 hK451
 refine drawn krQ hR Ex.refl ?_; clear hR; intro ww hR hR0
 revert aa
 refine eA 0 rfl krQ (fun _ _ _ h => h) hR0 rfl (fun _ hS => Yld.move hS rfl) ?_
 intro aa hS
 refine dOne (i := 1) krQ ?_
 refine dop rfl (Bcall hS rfl Try.call35 (tbsome_ok (hR.pk (r := blk b _ _) pkQ)) (by decide) ?_); clear hS; intro aa ww vv hS hp
 clear hR hR0
 obtain ⟨rfl, hR⟩ := hp
 refine dnext (hR.sub exQ) ?_; intro hR0
 revert aa
 refine qB (t := 7) true rfl (by rfl) ?_
 refine eA 2 rfl krQ (fun _ _ _ h => h) hR0 rfl (fun _ hS => Yld.not hS rfl) ?_
 refine qB (t := 8) false rfl (by rfl) ?_
 refine eA 3 rfl krQ (fun _ _ _ h => h) hR0 rfl (fun _ hS => Yld.move hS rfl) ?_
 refine eAg 4 rfl krQ (fun _ _ _ h => h) hR0 rfl rfl rfl (fun _ hS => Yld.move hS rfl) ?_
 refine eAg 5 rfl krQ (fun _ _ _ h => h) hR0 rfl rfl rfl (fun _ hS => Yld.nilCheck hS rfl) ?_
 refine eAg 6 rfl krQ (fun _ _ _ h => h) hR0 rfl rfl rfl (fun _ hS => Yld.fieldAddr hS rfl 2 Try.underlying81 rfl rfl info78 (by decide)) ?_
 refine eAg 7 rfl krQ (fun _ _ _ h => h) hR0 rfl rfl rfl (fun _ hS => Yld.load1 hS rfl Try.underlying78 rfl rdQ) ?_
 intro aa hS
 refine dAg 8 rfl krQ krQ krQ (fun _ _ _ h => h) hS rfl rfl hR0 (Yld.loadAgg hS rfl Try.underlying29 rfl info29 rdsQ2 (by rfl)) (by decide) ?_; clear hS; intro aa hS
 refine dOne (i := 9) krQ ?_
 refine dopg rfl hS rfl rfl (Bcall hS rfl Try.call43 (Live_okA (s := s) (u := u) (hR.pk (r := arena _ _ ba _) pkQ)) (by decide) ?_); clear hS; intro aa ww vv hS hp
 clear hR hR0
 obtain ⟨rfl, hR⟩ := hp
 rw [decide_eq_false hn] at hS
 refine dnext (hR.sub exQ) ?_; intro hR0
 revert aa
 refine qB (t := 15) false rfl (by rfl) ?_
 refine eAg 10 rfl krQ (fun _ _ _ h => h) hR0 rfl rfl rfl (fun _ hS => Yld.not hS rfl) ?_
 refine qB (t := 16) true rfl (by rfl) ?_
 refine eA 11 rfl krQ (fun _ _ _ h => h) hR0 rfl (fun _ hS => Yld.pickF hS rfl rfl) ?_
 intro aa hS
 refine wpAnyH_done krQ ?_ _; clear hR0
 refine hK451 _ _ ?_
 refine condT hS rfl ?_
 refine wp_seq_k ?_; intro K452 hK452
 refine wp_region_lit ?_
 refine sA hS hR (Yld.build hS rfl (bld35_)) (by decide) ?_; clear hS; intro aa hS
 refine sB (Bstore hS hR rfl rfl (by rfl) info35 (by rfl) pkQ (by rfl) (Nat.le_of_ble_eq_true rfl) ?_); clear hR; intro ww hR
 revert aa
 refine qN hR ?_
 intro aa hS
 refine wpList_nil ?_
 refine hK452 _ _ ?_
 refine wp_ret ?_
 repeat first | with_reducible refine thenR ?_ | with_reducible refine blockR ?_ | with_reducible refine scopeR ?_
 refine retN (fn := Try.f22) (e := .ret) (.inl rfl) Try.results22 hS hR ⟨_, .cons (.agg rfl Try.underlying35 rfl info35 (Rds.cons (Rd.blk pkQ (by rfl)) (Rds.cons (Rd.blk pkQ (by rfl)) (Rds.cons (Rd.blk pkQ (by rfl)) (Rds.cons (Rd.blk pkQ (by rfl)) (Rds.cons (Rd.blk pkQ (by rfl)) (Rds.nil)))))) (by rfl)) (.cons (.tmp rfl) (.nil)), rfl, ?_⟩
 try dsimp only [lay, List.set] at hR
 exact ⟨rfl, Sep.tableI (t := tt) (b := b) (T := T) hT hS4 (hR.sub exQ)⟩
theorem TbKey_ok {T : Tb} {S n b : Nat} {l : List HP} {w : World} {f : Fl} (hf : f ∈ T.F) (hR : Sep (tableA tt b S n T :: l) w) : CallR Try.prog 22 [.pointer (some ⟨b, 0, none⟩), .agg [.int .i64 (f.s : Int), .int .i64 f.u].toArray] w (fun v w' => v = .tuple [vK f.k, .bool true].toArray ∧ Sep (tableA tt b S n T :: l) w') := by
 refine enter Try.func22 rfl Try.ntmps22 (Nat.le_of_ble_eq_true rfl) ?_; intro aa hS
 obtain ⟨bo, bb, ba, bl, r, c, K1, K2, L, ky, hT, hS4, hR⟩ := (hR.pk (r := tableA _ b _ _ _) pkQ).tableE
 dsimp only at hR
 have hTF := hT.tf
 have hkl := hT.len
 have hwl := (hR.pk (r := linksA _ _ _ bl _ _ _) pkQ).linksWL
 have hbk : Bk r := (hR.pk (r := sls r _ _ _ _ _) pkQ).bk (by have := hTF.ok.pos; have := hTF.size; omega)
 obtain ⟨hfl, hkf⟩ := List.getElem?_eq_some_iff.1 (hT.key f hf)
 obtain ⟨hfs, hft, hfu⟩ := hTF.slot hf
 have hat := hTF.atf hf
 refine wp_seq_k ?_; intro K453 hK453
 refine wp_region_lit ?_
 refine sB (Bbox hS hR rfl (by rfl) (by decide) ?_); clear hS hR; intro aa ww bb3 hS hR
 refine sB (Balloc hS hR info35 (by rfl) (by rfl) (by decide) ?_); clear hS hR; intro aa ww bb4 hS hR
 revert aa
 refine qN hR ?_
 intro aa hS
 refine wpList_nil ?_
 refine hK453 _ _ ?_
 refine wp_seq_k ?_; intro K454 hK454
 refine wp_seq_k ?_; intro K455 hK455
 refine drawn krQ hR Ex.refl ?_; clear hR; intro ww hR hR0
 revert aa
 refine eA 0 rfl krQ (fun _ _ _ h => h) hR0 rfl (fun _ hS => Yld.move hS rfl) ?_
 intro aa hS
 refine dOne (i := 1) krQ ?_
 refine dop rfl (Bcall hS rfl Try.call35 (tbsome_ok (hR.pk (r := blk b _ _) pkQ)) (by decide) ?_); clear hS; intro aa ww vv hS hp
 clear hR hR0
 obtain ⟨rfl, hR⟩ := hp
 refine dnext (hR.sub exQ) ?_; intro hR0
 revert aa
 refine qB (t := 7) true rfl (by rfl) ?_
 refine eA 2 rfl krQ (fun _ _ _ h => h) hR0 rfl (fun _ hS => Yld.not hS rfl) ?_
 refine qB (t := 8) false rfl (by rfl) ?_
 refine eA 3 rfl krQ (fun _ _ _ h => h) hR0 rfl (fun _ hS => Yld.move hS rfl) ?_
 refine eAg 4 rfl krQ (fun _ _ _ h => h) hR0 rfl rfl rfl (fun _ hS => Yld.move hS rfl) ?_
 refine eAg 5 rfl krQ (fun _ _ _ h => h) hR0 rfl rfl rfl (fun _ hS => Yld.nilCheck hS rfl) ?_
 refine eAg 6 rfl krQ (fun _ _ _ h => h) hR0 rfl rfl rfl (fun _ hS => Yld.fieldAddr hS rfl 2 Try.underlying81 rfl rfl info78 (by decide)) ?_
 refine eAg 7 rfl krQ (fun _ _ _ h => h) hR0 rfl rfl rfl (fun _ hS => Yld.load1 hS rfl Try.underlying78 rfl rdQ) ?_
 intro aa hS
 refine dAg 8 rfl krQ krQ krQ (fun _ _ _ h => h) hS rfl rfl hR0 (Yld.loadAgg hS rfl Try.underlying29 rfl info29 rdsQ2 (by rfl)) (by decide) ?_; clear hS; intro aa hS
 refine dOne (i := 9) krQ ?_
 refine dopg rfl hS rfl rfl (Bcall hS rfl Try.call43 (Live_okA (s := (f.s : Int)) (u := f.u) (hR.pk (r := arena _ _ ba _) pkQ)) (by decide) ?_); clear hS; intro aa ww vv hS hp
 clear hR hR0
 obtain ⟨rfl, hR⟩ := hp
 rw [decide_eq_true hat] at hS
 refine dnext (hR.sub exQ) ?_; intro hR0
 revert aa
 refine qB (t := 15) true rfl (by rfl) ?_
 refine eAg 10 rfl krQ (fun _ _ _ h => h) hR0 rfl rfl rfl (fun _ hS => Yld.not hS rfl) ?_
 refine qB (t := 16) false rfl (by rfl) ?_
 refine eA 11 rfl krQ (fun _ _ _ h => h) hR0 rfl (fun _ hS => Yld.pickF hS rfl rfl) ?_
 intro aa hS
 refine wpAnyH_done krQ ?_ _; clear hR0
 refine hK455 _ _ ?_
 refine condF hS rfl ?_
 refine wp_skip ?_
 refine hK454 _ _ ?_
 refine wp_seq_k ?_; intro K456 hK456
 refine drawn krQ hR (Ex.of_pk (r := blk bb4 _ _) pkQ) ?_; clear hR; intro ww hR hR0
 revert aa
 refine eA 0 rfl krQ (fun _ _ _ h => h) hR0 rfl (fun _ hS => Yld.move hS rfl) ?_
 refine eA 1 rfl krQ (fun _ _ _ h => h) hR0 rfl (fun _ hS => Yld.nilCheck hS rfl) ?_
 refine eA 2 rfl krQ (fun _ _ _ h => h) hR0 rfl (fun _ hS => Yld.fieldAddr hS rfl 4 Try.underlying81 rfl rfl info24 (by decide)) ?_
 refine eA 3 rfl krQ (fun _ _ _ h => h) hR0 rfl (fun _ hS => Yld.load1 hS rfl Try.underlying24 rfl rdQ) ?_
 refine eA 4 rfl krQ (fun _ _ _ h => h) hR0 rfl (fun _ hS => Yld.fieldAddr hS rfl 0 Try.underlying29 rfl rfl info3 (by decide)) ?_
 refine eA 5 rfl krQ (fun _ _ _ h => h) hR0 rfl (fun _ hS => Yld.load1 hS rfl Try.underlying3 rfl rdQ) ?_
 refine eA 6 rfl krQ (fun _ _ _ h => h) hR0 rfl (fun _ hS => Yld.indexH (sz := 5) (f.s) hS rfl rfl Try.underlying24 info35 hbk rfl (by first | rfl | omega) (by omega)) ?_
 refine eA 7 rfl krQ (fun _ _ _ h => h) hR0 rfl (fun _ hS => Yld.loadAgg (vs := eK f.k) hS rfl Try.underlying35 rfl info35 (hkf ▸ Rds.rec (enc := eK) (xs := ky) (k := f.s) pkQ (by intro _; rfl) hfl) (by rfl)) ?_
 intro aa hS
 refine dOne (i := 8) krQ ?_
 refine dop rfl (Bstore hS hR rfl rfl (by rfl) info35 (by rfl) pkQ (by rfl) (Nat.le_of_ble_eq_true rfl) ?_); clear hR hR0; intro ww hR
 refine dnext (hR.sub exQ) ?_; intro hR0
 revert aa
 refine eA 9 rfl krQ (fun _ _ _ h => h) hR0 rfl (fun _ hS => Yld.assign hS rfl) ?_
 intro aa hS
 refine wpAnyH_done krQ ?_ _; clear hR0
 refine hK456 _ _ ?_
 refine wp_ret ?_
 repeat first | with_reducible refine thenR ?_ | with_reducible refine blockR ?_ | with_reducible refine scopeR ?_
 refine retN (fn := Try.f22) (e := .ret) (.inl rfl) Try.results22 hS hR ⟨_, .cons (.agg rfl Try.underlying35 rfl info35 (Rds.cons (Rd.blk pkQ (by rfl)) (Rds.cons (Rd.blk pkQ (by rfl)) (Rds.cons (Rd.blk pkQ (by rfl)) (Rds.cons (Rd.blk pkQ (by rfl)) (Rds.cons (Rd.blk pkQ (by rfl)) (Rds.nil)))))) (by rfl)) (.cons (.tmp rfl) (.nil)), rfl, ?_⟩
 try dsimp only [lay, List.set] at hR
 exact ⟨rfl, Sep.tableI (t := tt) (b := b) (T := T) hT hS4 (hR.sub exQ)⟩
theorem TbList_no {T : Tb} {S n b : Nat} {l : List HP} {w : World} {s u : Int} (hn : ¬ T.A.at s = some u) (hR : Sep (tableA tt b S n T :: l) w) : CallR Try.prog 13 [.pointer (some ⟨b, 0, none⟩), .agg [.int .i64 s, .int .i64 u].toArray] w (fun v w' => v = .tuple [.int .i64 0, .bool false].toArray ∧ Sep (tableA tt b S n T :: l) w') := by
 refine enter Try.func13 rfl Try.ntmps13 (Nat.le_of_ble_eq_true rfl) ?_; intro aa hS
 refine wp_seq_k ?_; intro K457 hK457
 refine wp_region_lit ?_
 refine sB (Bbox hS hR rfl (by rfl) (by decide) ?_); clear hS hR; intro aa ww bb3 hS hR
 revert aa
 refine qN hR ?_
 refine qN hR ?_
 intro aa hS
 refine wpList_nil ?_
 refine hK457 _ _ ?_
 refine wp_seq_k ?_; intro K458 hK458
 refine wp_seq_k ?_; intro K459 hK459
 refine wp_region_lit ?_
 revert aa
 refine qM hR ?_
 intro aa hS
 refine sA hS hR (Yld.loadAgg hS rfl Try.underlying29 rfl info29 rdsQ2 (by rfl)) (by decide) ?_; clear hS; intro aa hS
 refine sB (Bcall hS rfl Try.call22 (TbKey_no (s := s) (u := u) hn (hR.pk (r := tableA _ b _ _ _) pkQ)) (by decide) ?_); clear hS; intro aa ww vv hS hp
 clear hR
 obtain ⟨rfl, hR⟩ := hp
 revert aa
 refine qM hR ?_
 refine qX hR ?_
 refine qX hR ?_
 refine qB (t := 13) false rfl (by rfl) ?_
 intro aa hS
 refine sB (Balloc hS hR info35 (by rfl) (by rfl) (by decide) ?_); clear hS hR; intro aa ww bb6 hS hR
 refine sB (Bstore hS hR rfl rfl (by rfl) info35 (by rfl) pkQ (by rfl) (Nat.le_of_ble_eq_true rfl) ?_); clear hR; intro ww hR
 revert aa
 refine qN hR ?_
 intro aa hS
 refine wpList_nil ?_
 refine hK459 _ _ ?_
 refine wp_seq_k ?_; intro K460 hK460
 refine wp_region_lit ?_
 revert aa
 refine qM hR ?_
 refine qA hR rfl (fun _ hS => Yld.not hS rfl) ?_
 intro aa hS
 refine wpList_nil ?_
 refine hK460 _ _ ?_
 refine condT hS rfl ?_
 refine wp_seq_k ?_; intro K461 hK461
 refine wp_region_lit ?_
 revert aa
 refine qN hR ?_
 refine qN hR ?_
 intro aa hS
 refine wpList_nil ?_
 refine hK461 _ _ ?_
 refine wp_ret ?_
 repeat first | with_reducible refine thenR ?_ | with_reducible refine blockR ?_ | with_reducible refine scopeR ?_
 refine retN (fn := Try.f13) (e := .ret) (.inl rfl) Try.results13 hS hR ⟨_, .cons (.tmp rfl) (.cons (.tmp rfl) (.nil)), rfl, ?_⟩
 exact ⟨rfl, (hR.sub exQ)⟩
theorem TbList_ok {T : Tb} {S n b : Nat} {l : List HP} {w : World} {f : Fl} (hf : f ∈ T.F) (hR : Sep (tableA tt b S n T :: l) w) : CallR Try.prog 13 [.pointer (some ⟨b, 0, none⟩), .agg [.int .i64 (f.s : Int), .int .i64 f.u].toArray] w (fun v w' => v = .tuple [.int .i64 (f.i : Int), .bool true].toArray ∧ Sep (tableA tt b S n T :: l) w') := by
 refine enter Try.func13 rfl Try.ntmps13 (Nat.le_of_ble_eq_true rfl) ?_; intro aa hS
 refine wp_seq_k ?_; intro K462 hK462
 refine wp_region_lit ?_
 refine sB (Bbox hS hR rfl (by rfl) (by decide) ?_); clear hS hR; intro aa ww bb3 hS hR
 revert aa
 refine qN hR ?_
 refine qN hR ?_
 intro aa hS
 refine wpList_nil ?_
 refine hK462 _ _ ?_
 refine wp_seq_k ?_; intro K463 hK463
 refine wp_seq_k ?_; intro K464 hK464
 refine wp_region_lit ?_
 revert aa
 refine qM hR ?_
 intro aa hS
 refine sA hS hR (Yld.loadAgg hS rfl Try.underlying29 rfl info29 rdsQ2 (by rfl)) (by decide) ?_; clear hS; intro aa hS
 refine sB (Bcall hS rfl Try.call22 (TbKey_ok hf (hR.pk (r := tableA _ b _ _ _) pkQ)) (by decide) ?_); clear hS; intro aa ww vv hS hp
 clear hR
 obtain ⟨rfl, hR⟩ := hp
 obtain ⟨bo, bb, ba, bl, r, c, K1, K2, L, ky, hT, hS4, hR⟩ := (hR.pk (r := tableA _ b _ _ _) pkQ).tableE
 dsimp only at hR
 have hTF := hT.tf
 have hkl := hT.len
 have hwl := (hR.pk (r := linksA _ _ _ bl _ _ _) pkQ).linksWL
 have hbk : Bk r := (hR.pk (r := sls r _ _ _ _ _) pkQ).bk (by have := hTF.ok.pos; have := hTF.size; omega)
 obtain ⟨hfl, hkf⟩ := List.getElem?_eq_some_iff.1 (hT.key f hf)
 obtain ⟨hfs, hft, hfu⟩ := hTF.slot hf
 revert aa
 refine qM hR ?_
 refine qX hR ?_
 refine qX hR ?_
 refine qB (t := 13) true rfl (by rfl) ?_
 intro aa hS
 refine sB (Balloc hS hR info35 (by rfl) (by rfl) (by decide) ?_); clear hS hR; intro aa ww bb6 hS hR
 refine sB (Bstore hS hR rfl rfl (by rfl) info35 (by rfl) pkQ (by rfl) (Nat.le_of_ble_eq_true rfl) ?_); clear hR; intro ww hR
 revert aa
 refine qN hR ?_
 intro aa hS
 refine wpList_nil ?_
 refine hK464 _ _ ?_
 refine wp_seq_k ?_; intro K465 hK465
 refine wp_region_lit ?_
 revert aa
 refine qM hR ?_
 refine qA hR rfl (fun _ hS => Yld.not hS rfl) ?_
 intro aa hS
 refine wpList_nil ?_
 refine hK465 _ _ ?_
 refine condF hS rfl ?_
 refine wp_skip ?_
 refine hK463 _ _ ?_
 refine wp_seq_k ?_; intro K466 hK466
 refine drawn krQ hR Ex.refl ?_; clear hR; intro ww hR hR0
 revert aa
 refine eA 0 rfl krQ (fun _ _ _ h => h) hR0 rfl (fun _ hS => Yld.move hS rfl) ?_
 refine eA 1 rfl krQ (fun _ _ _ h => h) hR0 rfl (fun _ hS => Yld.nilCheck hS rfl) ?_
 refine eA 2 rfl krQ (fun _ _ _ h => h) hR0 rfl (fun _ hS => Yld.fieldAddr hS rfl 3 Try.underlying81 rfl rfl info79 (by decide)) ?_
 refine eA 3 rfl krQ (fun _ _ _ h => h) hR0 rfl (fun _ hS => Yld.load1 hS rfl Try.underlying79 rfl rdQ) ?_
 refine eA 4 rfl krQ (fun _ _ _ h => h) hR0 rfl (fun _ hS => Yld.fieldAddr hS rfl 0 Try.underlying29 rfl rfl info3 (by decide)) ?_
 refine eA 5 rfl krQ (fun _ _ _ h => h) hR0 rfl (fun _ hS => Yld.load1 hS rfl Try.underlying3 rfl rdQ) ?_
 intro aa hS
 refine dOne (i := 6) krQ ?_
 refine dop rfl (Bcall hS rfl Try.call38 (LOf_ok (x := (f.s : Int)) (hR.pk (r := linksA _ _ _ bl _ _ _) pkQ)) (by decide) ?_); clear hS; intro aa ww vv hS hp
 clear hR hR0
 obtain ⟨rfl, hR⟩ := hp
 rw [ofS_nat hfs, hT.ofL hwl hf] at hS
 dsimp only [optV, Option.getD, Option.isSome] at hS
 refine dnext (hR.sub exQ) ?_; intro hR0
 revert aa
 refine eA 7 rfl krQ (fun _ _ _ h => h) hR0 rfl (fun _ hS => Yld.extract hS rfl rfl) ?_
 refine eA 8 rfl krQ (fun _ _ _ h => h) hR0 rfl (fun _ hS => Yld.extract hS rfl rfl) ?_
 refine eA 9 rfl krQ (fun _ _ _ h => h) hR0 rfl (fun _ hS => Yld.assign hS rfl) ?_
 refine eA 10 rfl krQ (fun _ _ _ h => h) hR0 rfl (fun _ hS => Yld.assign hS rfl) ?_
 intro aa hS
 refine wpAnyH_done krQ ?_ _; clear hR0
 refine hK466 _ _ ?_
 refine wp_ret ?_
 repeat first | with_reducible refine thenR ?_ | with_reducible refine blockR ?_ | with_reducible refine scopeR ?_
 refine retN (fn := Try.f13) (e := .ret) (.inl rfl) Try.results13 hS hR ⟨_, .cons (.tmp rfl) (.cons (.tmp rfl) (.nil)), rfl, ?_⟩
 exact ⟨rfl, Sep.tableI (t := tt) (b := b) (T := T) hT hS4 (hR.sub exQ)⟩
theorem TbMove_bad {T : Tb} {S n b : Nat} {l : List HP} {w : World} {s u i : Int} (hi : ¬ (0 ≤ i ∧ i < n)) (hR : Sep (tableA tt b S n T :: l) w) : CallR Try.prog 15 [.pointer (some ⟨b, 0, none⟩), .agg [.int .i64 s, .int .i64 u].toArray, .int .i64 i] w (fun v w' => v = .int .i64 2 ∧ Sep (tableA tt b S n T :: l) w') := by
 refine enter Try.func15 rfl Try.ntmps15 (Nat.le_of_ble_eq_true rfl) ?_; intro aa hS
 obtain ⟨bo, bb, ba, bl, r, c, K1, K2, L, ky, hT, hS4, hR⟩ := (hR.pk (r := tableA _ b _ _ _) pkQ).tableE
 dsimp only at hR
 have hTF := hT.tf
 have hkl := hT.len
 have hwl := (hR.pk (r := linksA _ _ _ bl _ _ _) pkQ).linksWL
 have hbk : Bk r := (hR.pk (r := sls r _ _ _ _ _) pkQ).bk (by have := hTF.ok.pos; have := hTF.size; omega)
 refine wp_seq_k ?_; intro K467 hK467
 refine wp_region_lit ?_
 refine sB (Bbox hS hR rfl (by rfl) (by decide) ?_); clear hS hR; intro aa ww bb4 hS hR
 revert aa
 refine qN hR ?_
 intro aa hS
 refine wpList_nil ?_
 refine hK467 _ _ ?_
 refine wp_seq_k ?_; intro K468 hK468
 refine wp_block ?_
 refine wp_seq_k ?_; intro K469 hK469
 refine wp_region_lit ?_
 revert aa
 refine qM hR ?_
 intro aa hS
 refine sB (Bcall hS rfl Try.call35 (tbsome_ok (hR.pk (r := blk b _ _) pkQ)) (by decide) ?_); clear hS; intro aa ww vv hS hp
 clear hR
 obtain ⟨rfl, hR⟩ := hp
 revert aa
 refine qA hR rfl (fun _ hS => Yld.not hS rfl) ?_
 refine qN hR ?_
 intro aa hS
 refine wpList_nil ?_
 refine hK469 _ _ ?_
 refine condF hS rfl ?_
 refine wp_seq_k ?_; intro K470 hK470
 refine wp_region_lit ?_
 revert aa
 refine qM hR ?_
 refine qM hR ?_
 intro aa hS
 refine sB (Bcall hS rfl Try.call42 (tblist_ok (hR.pk (r := blk b _ _) pkQ)) (by decide) ?_); clear hS; intro aa ww vv hS hp
 clear hR
 obtain ⟨rfl, hR⟩ := hp
 revert aa
 refine qB (t := 14) false rfl (by exact decide_eq_false hi) ?_
 refine qA hR rfl (fun _ hS => Yld.not hS rfl) ?_
 refine qN hR ?_
 intro aa hS
 refine wpList_nil ?_
 refine hK470 _ _ ?_
 refine condT hS rfl ?_
 refine wp_seq_k ?_; intro K471 hK471
 refine wp_region_lit ?_
 revert aa
 refine qN hR ?_
 intro aa hS
 refine wpList_nil ?_
 refine hK471 _ _ ?_
 refine wp_ret ?_
 repeat first | with_reducible refine thenR ?_ | with_reducible refine blockR ?_ | with_reducible refine scopeR ?_
 refine ret1 (fn := Try.f15) (e := .ret) (.inl rfl) Try.results15 hS hR ⟨_, (.tmp rfl), ?_⟩
 exact ⟨rfl, Sep.tableI (t := tt) (b := b) (T := T) hT hS4 (hR.sub exQ)⟩
theorem TbMove_no {T : Tb} {S n b : Nat} {l : List HP} {w : World} {s u i : Int} (hi : 0 ≤ i ∧ i < n) (hn : ¬ T.A.at s = some u) (hR : Sep (tableA tt b S n T :: l) w) : CallR Try.prog 15 [.pointer (some ⟨b, 0, none⟩), .agg [.int .i64 s, .int .i64 u].toArray, .int .i64 i] w (fun v w' => v = .int .i64 6 ∧ Sep (tableA tt b S n T :: l) w') := by
 refine enter Try.func15 rfl Try.ntmps15 (Nat.le_of_ble_eq_true rfl) ?_; intro aa hS
 obtain ⟨bo, bb, ba, bl, r, c, K1, K2, L, ky, hT, hS4, hR⟩ := (hR.pk (r := tableA _ b _ _ _) pkQ).tableE
 dsimp only at hR
 have hTF := hT.tf
 have hkl := hT.len
 have hwl := (hR.pk (r := linksA _ _ _ bl _ _ _) pkQ).linksWL
 have hbk : Bk r := (hR.pk (r := sls r _ _ _ _ _) pkQ).bk (by have := hTF.ok.pos; have := hTF.size; omega)
 refine wp_seq_k ?_; intro K472 hK472
 refine wp_region_lit ?_
 refine sB (Bbox hS hR rfl (by rfl) (by decide) ?_); clear hS hR; intro aa ww bb4 hS hR
 revert aa
 refine qN hR ?_
 intro aa hS
 refine wpList_nil ?_
 refine hK472 _ _ ?_
 refine wp_seq_k ?_; intro K473 hK473
 refine wp_block ?_
 refine wp_seq_k ?_; intro K474 hK474
 refine wp_region_lit ?_
 revert aa
 refine qM hR ?_
 intro aa hS
 refine sB (Bcall hS rfl Try.call35 (tbsome_ok (hR.pk (r := blk b _ _) pkQ)) (by decide) ?_); clear hS; intro aa ww vv hS hp
 clear hR
 obtain ⟨rfl, hR⟩ := hp
 revert aa
 refine qA hR rfl (fun _ hS => Yld.not hS rfl) ?_
 refine qN hR ?_
 intro aa hS
 refine wpList_nil ?_
 refine hK474 _ _ ?_
 refine condF hS rfl ?_
 refine wp_seq_k ?_; intro K475 hK475
 refine wp_region_lit ?_
 revert aa
 refine qM hR ?_
 refine qM hR ?_
 intro aa hS
 refine sB (Bcall hS rfl Try.call42 (tblist_ok (hR.pk (r := blk b _ _) pkQ)) (by decide) ?_); clear hS; intro aa ww vv hS hp
 clear hR
 obtain ⟨rfl, hR⟩ := hp
 revert aa
 refine qB (t := 14) true rfl (by exact decide_eq_true hi) ?_
 refine qA hR rfl (fun _ hS => Yld.not hS rfl) ?_
 refine qN hR ?_
 intro aa hS
 refine wpList_nil ?_
 refine hK475 _ _ ?_
 refine condF hS rfl ?_
 refine wp_seq_k ?_; intro K476 hK476
 refine drawn krQ hR Ex.refl ?_; clear hR; intro ww hR hR0
 revert aa
 refine eA 0 rfl krQ (fun _ _ _ h => h) hR0 rfl (fun _ hS => Yld.move hS rfl) ?_
 refine eA 1 rfl krQ (fun _ _ _ h => h) hR0 rfl (fun _ hS => Yld.nilCheck hS rfl) ?_
 refine eA 2 rfl krQ (fun _ _ _ h => h) hR0 rfl (fun _ hS => Yld.fieldAddr hS rfl 2 Try.underlying81 rfl rfl info78 (by decide)) ?_
 refine eA 3 rfl krQ (fun _ _ _ h => h) hR0 rfl (fun _ hS => Yld.load1 hS rfl Try.underlying78 rfl rdQ) ?_
 intro aa hS
 refine dA 4 rfl krQ krQ krQ (fun _ _ _ h => h) hS hR0 (Yld.loadAgg hS rfl Try.underlying29 rfl info29 rdsQ2 (by rfl)) (by decide) ?_; clear hS; intro aa hS
 refine dOne (i := 5) krQ ?_
 refine dop rfl (Bcall hS rfl Try.call43 (Live_okA (s := s) (u := u) (hR.pk (r := arena _ _ ba _) pkQ)) (by decide) ?_); clear hS; intro aa ww vv hS hp
 clear hR hR0
 obtain ⟨rfl, hR⟩ := hp
 rw [decide_eq_false hn] at hS
 refine dnext (hR.sub exQ) ?_; intro hR0
 revert aa
 refine qB (t := 22) false rfl (by rfl) ?_
 refine eA 6 rfl krQ (fun _ _ _ h => h) hR0 rfl (fun _ hS => Yld.not hS rfl) ?_
 refine eA 7 rfl krQ (fun _ _ _ h => h) hR0 rfl (fun _ hS => Yld.assign hS rfl) ?_
 intro aa hS
 refine wpAnyH_done krQ ?_ _; clear hR0
 refine hK476 _ _ ?_
 refine condT hS rfl ?_
 refine wp_seq_k ?_; intro K477 hK477
 refine wp_region_lit ?_
 revert aa
 refine qN hR ?_
 intro aa hS
 refine wpList_nil ?_
 refine hK477 _ _ ?_
 refine wp_ret ?_
 repeat first | with_reducible refine thenR ?_ | with_reducible refine blockR ?_ | with_reducible refine scopeR ?_
 refine ret1 (fn := Try.f15) (e := .ret) (.inl rfl) Try.results15 hS hR ⟨_, (.tmp rfl), ?_⟩
 exact ⟨rfl, Sep.tableI (t := tt) (b := b) (T := T) hT hS4 (hR.sub exQ)⟩
set_option maxHeartbeats 1000000 in
theorem TbMove_ok {T : Tb} {S n b : Nat} {l : List HP} {w : World} {i : Nat} {f : Fl} (hi : i < n) (hf : f ∈ T.F) (hR : Sep (tableA tt b S n T :: l) w) : CallR Try.prog 15 [.pointer (some ⟨b, 0, none⟩), .agg [.int .i64 (f.s : Int), .int .i64 f.u].toArray, .int .i64 (i : Int)] w (fun v w' => v = .int .i64 0 ∧ Sep (tableA tt b S n (T.move f i) :: l) w') := by
 refine enter Try.func15 rfl Try.ntmps15 (Nat.le_of_ble_eq_true rfl) ?_; intro aa hS
 obtain ⟨bo, bb, ba, bl, r, c, K1, K2, L, ky, hT, hS4, hR⟩ := (hR.pk (r := tableA _ b _ _ _) pkQ).tableE
 dsimp only at hR
 have hTF := hT.tf
 have hkl := hT.len
 have hwl := (hR.pk (r := linksA _ _ _ bl _ _ _) pkQ).linksWL
 have hbk : Bk r := (hR.pk (r := sls r _ _ _ _ _) pkQ).bk (by have := hTF.ok.pos; have := hTF.size; omega)
 obtain ⟨hfl, hkf⟩ := List.getElem?_eq_some_iff.1 (hT.key f hf)
 obtain ⟨hfs, hft, hfu⟩ := hTF.slot hf
 have hat := hTF.atf hf
 obtain ⟨hme, hmT⟩ := hT.move hf hwl hi
 refine wp_seq_k ?_; intro K478 hK478
 refine wp_region_lit ?_
 refine sB (Bbox hS hR rfl (by rfl) (by decide) ?_); clear hS hR; intro aa ww bb4 hS hR
 revert aa
 refine qN hR ?_
 intro aa hS
 refine wpList_nil ?_
 refine hK478 _ _ ?_
 refine wp_seq_k ?_; intro K479 hK479
 refine wp_block ?_
 refine wp_seq_k ?_; intro K480 hK480
 refine wp_region_lit ?_
 revert aa
 refine qM hR ?_
 intro aa hS
 refine sB (Bcall hS rfl Try.call35 (tbsome_ok (hR.pk (r := blk b _ _) pkQ)) (by decide) ?_); clear hS; intro aa ww vv hS hp
 clear hR
 obtain ⟨rfl, hR⟩ := hp
 revert aa
 refine qA hR rfl (fun _ hS => Yld.not hS rfl) ?_
 refine qN hR ?_
 intro aa hS
 refine wpList_nil ?_
 refine hK480 _ _ ?_
 refine condF hS rfl ?_
 refine wp_seq_k ?_; intro K481 hK481
 refine wp_region_lit ?_
 revert aa
 refine qM hR ?_
 refine qM hR ?_
 intro aa hS
 refine sB (Bcall hS rfl Try.call42 (tblist_ok (hR.pk (r := blk b _ _) pkQ)) (by decide) ?_); clear hS; intro aa ww vv hS hp
 clear hR
 obtain ⟨rfl, hR⟩ := hp
 revert aa
 refine qB (t := 14) true rfl (by exact decide_eq_true (by omega)) ?_
 refine qA hR rfl (fun _ hS => Yld.not hS rfl) ?_
 refine qN hR ?_
 intro aa hS
 refine wpList_nil ?_
 refine hK481 _ _ ?_
 refine condF hS rfl ?_
 refine wp_seq_k ?_; intro K482 hK482
 refine drawn krQ hR Ex.refl ?_; clear hR; intro ww hR hR0
 revert aa
 refine eA 0 rfl krQ (fun _ _ _ h => h) hR0 rfl (fun _ hS => Yld.move hS rfl) ?_
 refine eA 1 rfl krQ (fun _ _ _ h => h) hR0 rfl (fun _ hS => Yld.nilCheck hS rfl) ?_
 refine eA 2 rfl krQ (fun _ _ _ h => h) hR0 rfl (fun _ hS => Yld.fieldAddr hS rfl 2 Try.underlying81 rfl rfl info78 (by decide)) ?_
 refine eA 3 rfl krQ (fun _ _ _ h => h) hR0 rfl (fun _ hS => Yld.load1 hS rfl Try.underlying78 rfl rdQ) ?_
 intro aa hS
 refine dA 4 rfl krQ krQ krQ (fun _ _ _ h => h) hS hR0 (Yld.loadAgg hS rfl Try.underlying29 rfl info29 rdsQ2 (by rfl)) (by decide) ?_; clear hS; intro aa hS
 refine dOne (i := 5) krQ ?_
 refine dop rfl (Bcall hS rfl Try.call43 (Live_okA (s := (f.s : Int)) (u := f.u) (hR.pk (r := arena _ _ ba _) pkQ)) (by decide) ?_); clear hS; intro aa ww vv hS hp
 clear hR hR0
 obtain ⟨rfl, hR⟩ := hp
 rw [decide_eq_true hat] at hS
 refine dnext (hR.sub exQ) ?_; intro hR0
 revert aa
 refine qB (t := 22) true rfl (by rfl) ?_
 refine eA 6 rfl krQ (fun _ _ _ h => h) hR0 rfl (fun _ hS => Yld.not hS rfl) ?_
 refine eA 7 rfl krQ (fun _ _ _ h => h) hR0 rfl (fun _ hS => Yld.assign hS rfl) ?_
 intro aa hS
 refine wpAnyH_done krQ ?_ _; clear hR0
 refine hK482 _ _ ?_
 refine condF hS rfl ?_
 refine wp_skip ?_
 refine hK479 _ _ ?_
 refine wp_seq_k ?_; intro K483 hK483
 refine drawn krQ hR (Ex.of_pk (r := linksA _ _ _ bl _ _ _) pkQ) ?_; clear hR; intro ww hR hR0
 revert aa
 refine eA 0 rfl krQ (fun _ _ _ h => h) hR0 rfl (fun _ hS => Yld.move hS rfl) ?_
 refine eA 1 rfl krQ (fun _ _ _ h => h) hR0 rfl (fun _ hS => Yld.nilCheck hS rfl) ?_
 refine eA 2 rfl krQ (fun _ _ _ h => h) hR0 rfl (fun _ hS => Yld.fieldAddr hS rfl 3 Try.underlying81 rfl rfl info79 (by decide)) ?_
 refine eA 3 rfl krQ (fun _ _ _ h => h) hR0 rfl (fun _ hS => Yld.load1 hS rfl Try.underlying79 rfl rdQ) ?_
 refine eA 4 rfl krQ (fun _ _ _ h => h) hR0 rfl (fun _ hS => Yld.fieldAddr hS rfl 0 Try.underlying29 rfl rfl info3 (by decide)) ?_
 refine eA 5 rfl krQ (fun _ _ _ h => h) hR0 rfl (fun _ hS => Yld.load1 hS rfl Try.underlying3 rfl rdQ) ?_
 intro aa hS
 refine dOne (i := 6) krQ ?_
 refine dop rfl (Bcall hS rfl Try.call44 (LOut_ok (x := (f.s : Int)) (hR.pk (r := linksA _ _ _ bl _ _ _) pkQ)) (by decide) ?_); clear hS; intro aa ww vv hS hp
 clear hR hR0
 obtain ⟨rfl, hR⟩ := hp
 refine dnext (hR.sub exQ) ?_; intro hR0
 refine wpAnyH_done krQ ?_ _; clear hR0
 refine hK483 _ _ ?_
 refine wp_seq_k ?_; intro K484 hK484
 refine drawn krQ hR (Ex.of_pk (r := linksA _ _ _ bl _ _ _) pkQ) ?_; clear hR; intro ww hR hR0
 revert aa
 refine eA 0 rfl krQ (fun _ _ _ h => h) hR0 rfl (fun _ hS => Yld.move hS rfl) ?_
 refine eA 1 rfl krQ (fun _ _ _ h => h) hR0 rfl (fun _ hS => Yld.nilCheck hS rfl) ?_
 refine eA 2 rfl krQ (fun _ _ _ h => h) hR0 rfl (fun _ hS => Yld.fieldAddr hS rfl 3 Try.underlying81 rfl rfl info79 (by decide)) ?_
 refine eA 3 rfl krQ (fun _ _ _ h => h) hR0 rfl (fun _ hS => Yld.load1 hS rfl Try.underlying79 rfl rdQ) ?_
 refine eA 4 rfl krQ (fun _ _ _ h => h) hR0 rfl (fun _ hS => Yld.move hS rfl) ?_
 refine eA 5 rfl krQ (fun _ _ _ h => h) hR0 rfl (fun _ hS => Yld.fieldAddr hS rfl 0 Try.underlying29 rfl rfl info3 (by decide)) ?_
 refine eA 6 rfl krQ (fun _ _ _ h => h) hR0 rfl (fun _ hS => Yld.load1 hS rfl Try.underlying3 rfl rdQ) ?_
 intro aa hS
 refine dOne (i := 7) krQ ?_
 refine dop rfl (Bcall hS rfl Try.call45 (LBack_ok (x := (i : Int)) (y := (f.s : Int)) (hR.pk (r := linksA _ _ _ bl _ _ _) pkQ)) (by decide) ?_); clear hS; intro aa ww vv hS hp
 clear hR hR0
 obtain ⟨rfl, hR⟩ := hp
 rw [hme] at hS
 refine dnext (hR.sub exQ) ?_; intro hR0
 revert aa
 refine eA 8 rfl krQ (fun _ _ _ h => h) hR0 rfl (fun _ hS => Yld.assign hS rfl) ?_
 intro aa hS
 refine wpAnyH_done krQ ?_ _; clear hR0
 refine hK484 _ _ ?_
 refine wp_ret ?_
 repeat first | with_reducible refine thenR ?_ | with_reducible refine blockR ?_ | with_reducible refine scopeR ?_
 refine ret1 (fn := Try.f15) (e := .ret) (.inl rfl) Try.results15 hS hR ⟨_, (.tmp rfl), ?_⟩
 exact ⟨rfl, Sep.tableI (t := tt) (b := b) (T := (T.move f i)) hmT hS4 (hR.sub exQ)⟩
theorem TbMove {T : Tb} {S n b : Nat} {l : List HP} {w : World} {s u i : Int} (hR : Sep (tableA tt b S n T :: l) w) : CallR Try.prog 15 [.pointer (some ⟨b, 0, none⟩), .agg [.int .i64 s, .int .i64 u].toArray, .int .i64 i] w (fun v w' => v = .int .i64 (movR T n s u i) ∧ Sep (tableA tt b S n (movN T n s u i) :: l) w') := by
 obtain ⟨bo, bb, ba, bl, r, c, K1, K2, L, ky, hT, hS4, hR⟩ := hR.tableE
 have hTF := hT.tf
 replace hR := Sep.tableI hT hS4 hR
 unfold movR movN
 by_cases hi : 0 ≤ i ∧ i < n
 ·
  have hc : ¬ ¬ (0 ≤ i ∧ i < n) := fun x => x hi
  rw [if_neg hc, if_neg hc]
  cases hg : getF T.F s u with
  | none => exact TbMove_no hi (fun h => by have := (getF_at hTF).2 h; rw [hg] at this; cases this) hR
  | some f =>
   obtain ⟨hf, h1, h2⟩ := (getF_mem hTF).1 hg
   subst h1 h2
   obtain ⟨j, rfl⟩ : ∃ j : Nat, i = j := ⟨i.toNat, by omega⟩
   exact TbMove_ok (by omega) hf hR
 ·
  rw [if_pos hi, if_pos hi]
  exact TbMove_bad hi hR
end Go.Proofs.Ythhndmlfgjcgpaa.Sx
