/-
 
-/
import Derived.Test.YthhndmlfgjcgpaaZTrI
import Derived.Test.YthhndmlfgjcgpaaZPt
namespace Go.Proofs.Ythhndmlfgjcgpaa.Sx
open Go
set_option maxRecDepth 20000
set_option linter.unusedVariables false
set_option linter.unusedSimpArgs false
theorem info75 : Try.prog.info? 75 = some Try.t75 := by kernel_rfl
theorem info77 : Try.prog.info? 77 = some Try.t77 := by kernel_rfl
theorem info78 : Try.prog.info? 78 = some Try.t78 := by kernel_rfl
theorem info79 : Try.prog.info? 79 = some Try.t79 := by kernel_rfl
abbrev tt : TT := { T := 81, A := 147, N := 144, I := 3, R := 150, S := 152, L := 157, M := 154, K := 35 }
theorem tbsome_ok {S n b bo bb ba bl c : Nat} {r : Option Addr} {l : List HP} {w : World} (hR : Sep (blk b [.pointer (some ⟨bo, 0, none⟩), .pointer (some ⟨bb, 0, none⟩), .pointer (some ⟨ba, 0, none⟩), .pointer (some ⟨bl, 0, none⟩), .slice r S c, .int .i64 (n : Int)] 81 :: l) w) : CallR Try.prog 35 [.pointer (some ⟨b, 0, none⟩)] w (fun v w' => v = .bool true ∧ Sep (blk b [.pointer (some ⟨bo, 0, none⟩), .pointer (some ⟨bb, 0, none⟩), .pointer (some ⟨ba, 0, none⟩), .pointer (some ⟨bl, 0, none⟩), .slice r S c, .int .i64 (n : Int)] 81 :: l) w') := by
 refine enter Try.func35 rfl Try.ntmps35 (Nat.le_of_ble_eq_true rfl) ?_; intro aa hS
 refine wp_seq_k ?_; intro K343 hK343
 refine wp_region_lit ?_
 revert aa
 refine qN hR ?_
 intro aa hS
 refine wpList_nil ?_
 refine hK343 _ _ ?_
 refine wp_seq_k ?_; intro K344 hK344
 refine wp_region_lit ?_
 revert aa
 refine qM hR ?_
 refine qA hR rfl (fun _ hS => Yld.neqNil hS rfl rfl Try.underlying23) ?_
 refine qB (t := 4) true rfl (by rfl) ?_
 refine qM hR ?_
 refine qMg hR ?_
 refine qAg hR rfl rfl rfl (fun _ hS => Yld.nilCheck hS rfl) ?_
 refine qAg hR rfl rfl rfl (fun _ hS => Yld.fieldAddr hS rfl 2 Try.underlying81 rfl rfl info78 (by decide)) ?_
 refine qAg hR rfl rfl rfl (fun _ hS => Yld.load1 hS rfl Try.underlying78 rfl rdQ) ?_
 refine qAg hR rfl rfl rfl (fun _ hS => Yld.neqNil hS rfl rfl Try.underlying78) ?_
 refine qB (t := 10) true rfl (by rfl) ?_
 refine qA hR rfl (fun _ hS => Yld.pickT hS rfl rfl) ?_
 refine qN hR ?_
 intro aa hS
 refine wpList_nil ?_
 refine hK344 _ _ ?_
 refine wp_ret ?_
 repeat first | with_reducible refine thenR ?_ | with_reducible refine blockR ?_ | with_reducible refine scopeR ?_
 refine ret1 (fn := Try.f35) (e := .ret) (.inl rfl) Try.results35 hS hR ⟨_, (.tmp rfl), ?_⟩
 exact ⟨rfl, (hR.sub exQ)⟩
theorem tblist_ok {S n b bo bb ba bl c : Nat} {r : Option Addr} {l : List HP} {w : World} {i : Int} (hR : Sep (blk b [.pointer (some ⟨bo, 0, none⟩), .pointer (some ⟨bb, 0, none⟩), .pointer (some ⟨ba, 0, none⟩), .pointer (some ⟨bl, 0, none⟩), .slice r S c, .int .i64 (n : Int)] 81 :: l) w) : CallR Try.prog 42 [.pointer (some ⟨b, 0, none⟩), .int .i64 i] w (fun v w' => v = .bool (decide (0 ≤ i ∧ i < n)) ∧ Sep (blk b [.pointer (some ⟨bo, 0, none⟩), .pointer (some ⟨bb, 0, none⟩), .pointer (some ⟨ba, 0, none⟩), .pointer (some ⟨bl, 0, none⟩), .slice r S c, .int .i64 (n : Int)] 81 :: l) w') := by
 refine enter Try.func42 rfl Try.ntmps42 (Nat.le_of_ble_eq_true rfl) ?_; intro aa hS
 refine wp_seq_k ?_; intro K345 hK345
 refine wp_region_lit ?_
 revert aa
 refine qN hR ?_
 intro aa hS
 refine wpList_nil ?_
 refine hK345 _ _ ?_
 refine wp_seq_k ?_; intro K346 hK346
 refine wp_region_lit ?_
 revert aa
 refine qM hR ?_
 refine qA hR rfl (fun _ hS => Yld.geq hS rfl rfl) ?_
 refine qM hR ?_
 intro aa hS
 refine hS.splitB (t := 7) rfl ?_ ?_ <;> clear hS
 ·
  intro hg hS
  revert aa
  refine qMg hR ?_
  refine qMg hR ?_
  refine qAg hR rfl rfl rfl (fun _ hS => Yld.nilCheck hS rfl) ?_
  refine qAg hR rfl rfl rfl (fun _ hS => Yld.fieldAddr hS rfl 5 Try.underlying81 rfl rfl info3 (by decide)) ?_
  refine qAg hR rfl rfl rfl (fun _ hS => Yld.load1 hS rfl Try.underlying3 rfl rdQ) ?_
  refine qAg hR rfl rfl rfl (fun _ hS => Yld.lss hS rfl rfl) ?_
  refine qA hR rfl (fun _ hS => Yld.pickT hS rfl rfl) ?_
  refine qN hR ?_
  intro aa hS
  refine wpList_nil ?_
  refine hK346 _ _ ?_
  refine wp_ret ?_
  repeat first | with_reducible refine thenR ?_ | with_reducible refine blockR ?_ | with_reducible refine scopeR ?_
  refine ret1 (fn := Try.f42) (e := .ret) (.inl rfl) Try.results42 hS hR ⟨_, (.tmp rfl), ?_⟩
  refine ⟨?_, (hR.sub exQ)⟩
  exact dec_iff (by omega)
 ·
  intro hg hS
  revert aa
  refine qZ ?_
  refine qZ ?_
  refine qZ ?_
  refine qZ ?_
  refine qZ ?_
  refine qZ ?_
  refine qA hR rfl (fun _ hS => Yld.pickF hS rfl rfl) ?_
  refine qN hR ?_
  intro aa hS
  refine wpList_nil ?_
  refine hK346 _ _ ?_
  refine wp_ret ?_
  repeat first | with_reducible refine thenR ?_ | with_reducible refine blockR ?_ | with_reducible refine scopeR ?_
  refine ret1 (fn := Try.f42) (e := .ret) (.inl rfl) Try.results42 hS hR ⟨_, (.tmp rfl), ?_⟩
  refine ⟨?_, (hR.sub exQ)⟩
  exact dec_no (by omega)
theorem tbsome_okT {T : Tb} {S n b : Nat} {l : List HP} {w : World} (hR : Sep (tableA tt b S n T :: l) w) : CallR Try.prog 35 [.pointer (some ⟨b, 0, none⟩)] w (fun v w' => v = .bool true ∧ Sep (tableA tt b S n T :: l) w') := by
 obtain ⟨bo, bb, ba, bl, r, c, K1, K2, L, ky, hT, hS4, hR⟩ := hR.tableE
 exact CallR.mono (tbsome_ok hR) fun v w' h => ⟨h.1, Sep.tableI hT hS4 h.2⟩
theorem tblist_okT {T : Tb} {S n b : Nat} {l : List HP} {w : World} {i : Int} (hR : Sep (tableA tt b S n T :: l) w) : CallR Try.prog 42 [.pointer (some ⟨b, 0, none⟩), .int .i64 i] w (fun v w' => v = .bool (decide (0 ≤ i ∧ i < n)) ∧ Sep (tableA tt b S n T :: l) w') := by
 obtain ⟨bo, bb, ba, bl, r, c, K1, K2, L, ky, hT, hS4, hR⟩ := hR.tableE
 exact CallR.mono (tblist_ok hR) fun v w' h => ⟨h.1, Sep.tableI hT hS4 h.2⟩
theorem Turn_ok {k : Ky} {l : List HP} {w : World} (hR : Sep l w) : CallR Try.prog 16 [vK k] w (fun v w' => v = vK (trn k) ∧ Sep l w') := by
 refine enter Try.func16 rfl Try.ntmps16 (Nat.le_of_ble_eq_true rfl) ?_; intro aa hS
 refine wp_seq_k ?_; intro K347 hK347
 refine wp_region_lit ?_
 refine sB (Bbox hS hR rfl (by rfl) (by decide) ?_); clear hS hR; intro aa ww bb1 hS hR
 refine sB (Balloc hS hR info35 (by rfl) (by rfl) (by decide) ?_); clear hS hR; intro aa ww bb2 hS hR
 refine wpList_nil ?_
 refine hK347 _ _ ?_
 refine wp_seq_k ?_; intro K348 hK348
 refine wp_region_lit ?_
 revert aa
 refine qA hR rfl (fun _ hS => Yld.fieldAddr hS rfl 2 Try.underlying35 rfl rfl info32 (by decide)) ?_
 refine qA hR rfl (fun _ hS => Yld.load1 hS rfl Try.underlying32 rfl rdQ) ?_
 refine qA hR rfl (fun _ hS => Yld.fieldAddr hS rfl 1 Try.underlying35 rfl rfl info32 (by decide)) ?_
 refine qA hR rfl (fun _ hS => Yld.load1 hS rfl Try.underlying32 rfl rdQ) ?_
 refine qA hR rfl (fun _ hS => Yld.fieldAddr hS rfl 1 Try.underlying35 rfl rfl info32 (by decide)) ?_
 intro aa hS
 refine sB (Bstore hS hR rfl rfl (by rfl) info32 (by rfl) pkQ (by rfl) (Nat.le_of_ble_eq_true rfl) ?_); clear hR; intro ww hR
 refine sA hS hR (Yld.fieldAddr hS rfl 2 Try.underlying35 rfl rfl info32 (by decide)) (by decide) ?_; clear hS; intro aa hS
 refine sB (Bstore hS hR rfl rfl (by rfl) info32 (by rfl) pkQ (by rfl) (Nat.le_of_ble_eq_true rfl) ?_); clear hR; intro ww hR
 refine wpList_nil ?_
 refine hK348 _ _ ?_
 refine wp_seq_k ?_; intro K349 hK349
 refine wp_region_lit ?_
 revert aa
 refine qA hR rfl (fun _ hS => Yld.fieldAddr hS rfl 4 Try.underlying35 rfl rfl info33 (by decide)) ?_
 refine qA hR rfl (fun _ hS => Yld.load1 hS rfl Try.underlying33 rfl rdQ) ?_
 refine qA hR rfl (fun _ hS => Yld.fieldAddr hS rfl 3 Try.underlying35 rfl rfl info33 (by decide)) ?_
 refine qA hR rfl (fun _ hS => Yld.load1 hS rfl Try.underlying33 rfl rdQ) ?_
 refine qA hR rfl (fun _ hS => Yld.fieldAddr hS rfl 3 Try.underlying35 rfl rfl info33 (by decide)) ?_
 intro aa hS
 refine sB (Bstore hS hR rfl rfl (by rfl) info33 (by rfl) pkQ (by rfl) (Nat.le_of_ble_eq_true rfl) ?_); clear hR; intro ww hR
 refine sA hS hR (Yld.fieldAddr hS rfl 4 Try.underlying35 rfl rfl info33 (by decide)) (by decide) ?_; clear hS; intro aa hS
 refine sB (Bstore hS hR rfl rfl (by rfl) info33 (by rfl) pkQ (by rfl) (Nat.le_of_ble_eq_true rfl) ?_); clear hR; intro ww hR
 refine wpList_nil ?_
 refine hK349 _ _ ?_
 refine wp_seq_k ?_; intro K350 hK350
 refine wp_region_lit ?_
 refine sA hS hR (Yld.loadAgg hS rfl Try.underlying35 rfl info35 rdsQ5 (by rfl)) (by decide) ?_; clear hS; intro aa hS
 refine sB (Bstore hS hR rfl rfl (by rfl) info35 (by rfl) pkQ (by rfl) (Nat.le_of_ble_eq_true rfl) ?_); clear hR; intro ww hR
 refine wpList_nil ?_
 refine hK350 _ _ ?_
 refine wp_ret ?_
 repeat first | with_reducible refine thenR ?_ | with_reducible refine blockR ?_ | with_reducible refine scopeR ?_
 refine ret1 (fn := Try.f16) (e := .ret) (.inl rfl) Try.results16 hS hR ⟨_, (.agg rfl Try.underlying35 rfl info35 (Rds.cons (Rd.blk pkQ (by rfl)) (Rds.cons (Rd.blk pkQ (by rfl)) (Rds.cons (Rd.blk pkQ (by rfl)) (Rds.cons (Rd.blk pkQ (by rfl)) (Rds.cons (Rd.blk pkQ (by rfl)) (Rds.nil)))))) (by rfl)), ?_⟩
 try dsimp only [lay, List.set] at hR
 exact ⟨rfl, (hR.sub exQ)⟩
theorem tbat_ok {T : Tb} {S n b : Nat} {l : List HP} {w : World} {f : Fl} (hf : f ∈ T.F) (hR : Sep (tableA tt b S n T :: l) w) : CallR Try.prog 41 [.pointer (some ⟨b, 0, none⟩), .int .i64 (f.s : Int)] w (fun v w' => v = vH f.s f.u ∧ Sep (tableA tt b S n T :: l) w') := by
 refine enter Try.func41 rfl Try.ntmps41 (Nat.le_of_ble_eq_true rfl) ?_; intro aa hS
 obtain ⟨bo, bb, ba, bl, r, c, K1, K2, L, ky, hT, hS4, hR⟩ := (hR.pk (r := tableA _ b _ _ _) pkQ).tableE
 dsimp only at hR
 have hTF := hT.tf
 have hkl := hT.len
 have hwl := (hR.pk (r := linksA _ _ _ bl _ _ _) pkQ).linksWL
 have hbk : Bk r := (hR.pk (r := sls r _ _ _ _ _) pkQ).bk (by have := hTF.ok.pos; have := hTF.size; omega)
 refine wp_seq_k ?_; intro K351 hK351
 refine wp_region_lit ?_
 refine sB (Balloc hS hR info29 (by rfl) (by rfl) (by decide) ?_); clear hS hR; intro aa ww bb4 hS hR
 refine wpList_nil ?_
 refine hK351 _ _ ?_
 refine wp_seq_k ?_; intro K352 hK352
 refine wp_region_lit ?_
 revert aa
 refine qM hR ?_
 refine qA hR rfl (fun _ hS => Yld.nilCheck hS rfl) ?_
 refine qA hR rfl (fun _ hS => Yld.fieldAddr hS rfl 2 Try.underlying81 rfl rfl info78 (by decide)) ?_
 refine qA hR rfl (fun _ hS => Yld.load1 hS rfl Try.underlying78 rfl rdQ) ?_
 refine qM hR ?_
 intro aa hS
 refine sB (Bcall hS rfl Try.call37 (At_okA (s := (f.s : Int)) (hR.pk (r := arena _ _ ba _) pkQ)) (by decide) ?_); clear hS; intro aa ww vv hS hp
 clear hR
 obtain ⟨rfl, hR⟩ := hp
 rw [atV_some (hTF.atf hf)] at hS
 revert aa
 refine qM hR ?_
 refine qX hR ?_
 refine qX hR ?_
 intro aa hS
 refine sB (Balloc hS hR info29 (by rfl) (by rfl) (by decide) ?_); clear hS hR; intro aa ww bb5 hS hR
 refine sB (Bstore hS hR rfl rfl (by rfl) info29 (by rfl) pkQ (by rfl) (Nat.le_of_ble_eq_true rfl) ?_); clear hR; intro ww hR
 revert aa
 refine qN hR ?_
 intro aa hS
 refine wpList_nil ?_
 refine hK352 _ _ ?_
 refine wp_seq_k ?_; intro K353 hK353
 refine wp_region_lit ?_
 refine sA hS hR (Yld.loadAgg hS rfl Try.underlying29 rfl info29 rdsQ2 (by rfl)) (by decide) ?_; clear hS; intro aa hS
 refine sB (Bstore hS hR rfl rfl (by rfl) info29 (by rfl) pkQ (by rfl) (Nat.le_of_ble_eq_true rfl) ?_); clear hR; intro ww hR
 refine wpList_nil ?_
 refine hK353 _ _ ?_
 refine wp_ret ?_
 repeat first | with_reducible refine thenR ?_ | with_reducible refine blockR ?_ | with_reducible refine scopeR ?_
 refine ret1 (fn := Try.f41) (e := .ret) (.inl rfl) Try.results41 hS hR ⟨_, (.agg rfl Try.underlying29 rfl info29 (Rds.cons (Rd.blk pkQ (by rfl)) (Rds.cons (Rd.blk pkQ (by rfl)) (Rds.nil))) (by rfl)), ?_⟩
 try dsimp only [lay, List.set] at hR
 exact ⟨rfl, Sep.tableI (t := tt) (b := b) (T := T) hT hS4 (hR.sub exQ)⟩
theorem Find_no {T : Tb} {S n b : Nat} {l : List HP} {w : World} {k : Ky} (hn : fndK T.F k = none) (hk : WfK k) (hR : Sep (tableA tt b S n T :: l) w) : CallR Try.prog 12 [.pointer (some ⟨b, 0, none⟩), vK k] w (fun v w' => v = fndV T.F k ∧ Sep (tableA tt b S n T :: l) w') := by
 refine enter Try.func12 rfl Try.ntmps12 (Nat.le_of_ble_eq_true rfl) ?_; intro aa hS
 obtain ⟨bo, bb, ba, bl, r, c, K1, K2, L, ky, hT, hS4, hR⟩ := (hR.pk (r := tableA _ b _ _ _) pkQ).tableE
 dsimp only at hR
 have hTF := hT.tf
 have hkl := hT.len
 have hwl := (hR.pk (r := linksA _ _ _ bl _ _ _) pkQ).linksWL
 have hbk : Bk r := (hR.pk (r := sls r _ _ _ _ _) pkQ).bk (by have := hTF.ok.pos; have := hTF.size; omega)
 have h12 := hTF.fNone hn
 refine wp_seq_k ?_; intro K354 hK354
 refine wp_region_lit ?_
 refine sB (Bbox hS hR rfl (by rfl) (by decide) ?_); clear hS hR; intro aa ww bb3 hS hR
 refine sB (Balloc hS hR info29 (by rfl) (by rfl) (by decide) ?_); clear hS hR; intro aa ww bb4 hS hR
 revert aa
 refine qN hR ?_
 refine qN hR ?_
 intro aa hS
 refine wpList_nil ?_
 refine hK354 _ _ ?_
 refine wp_seq_k ?_; intro K355 hK355
 refine wp_seq_k ?_; intro K356 hK356
 refine wp_region_lit ?_
 revert aa
 refine qM hR ?_
 intro aa hS
 refine sB (Bcall hS rfl Try.call35 (tbsome_ok (hR.pk (r := blk b _ _) pkQ)) (by decide) ?_); clear hS; intro aa ww vv hS hp
 clear hR
 obtain ⟨rfl, hR⟩ := hp
 refine sA hS hR (Yld.not hS rfl) (by decide) ?_; clear hS; intro aa hS
 refine wpList_nil ?_
 refine hK356 _ _ ?_
 refine condF hS rfl ?_
 refine wp_skip ?_
 refine hK355 _ _ ?_
 refine wp_seq_k ?_; intro K357 hK357
 refine drawn krQ hR Ex.refl ?_; clear hR; intro ww hR hR0
 revert aa
 refine eA 0 rfl krQ (fun _ _ _ h => h) hR0 rfl (fun _ hS => Yld.move hS rfl) ?_
 refine eA 1 rfl krQ (fun _ _ _ h => h) hR0 rfl (fun _ hS => Yld.nilCheck hS rfl) ?_
 refine eA 2 rfl krQ (fun _ _ _ h => h) hR0 rfl (fun _ hS => Yld.fieldAddr hS rfl 0 Try.underlying81 rfl rfl info77 (by decide)) ?_
 refine eA 3 rfl krQ (fun _ _ _ h => h) hR0 rfl (fun _ hS => Yld.fieldAddr hS rfl 0 Try.underlying77 rfl rfl info75 (by decide)) ?_
 refine eA 4 rfl krQ (fun _ _ _ h => h) hR0 rfl (fun _ hS => Yld.load1 hS rfl Try.underlying75 rfl rdQ) ?_
 intro aa hS
 refine dA 5 rfl krQ krQ krQ (fun _ _ _ h => h) hS hR0 (Yld.loadAgg hS rfl Try.underlying35 rfl info35 rdsQ5 (by rfl)) (by decide) ?_; clear hS; intro aa hS
 refine dOne (i := 6) krQ ?_
 refine dop rfl (Bcall hS rfl Try.call36 (Get_ok (k := k) (hR.pk (r := trieA _ _ _ bo _ _) pkQ) hk) (by decide) ?_); clear hS; intro aa ww vv hS hp
 clear hR hR0
 obtain ⟨rfl, hR⟩ := hp
 rw [hT.get1 k, h12.1] at hS
 dsimp only [Option.getD, Option.isSome] at hS
 refine dnext (hR.sub exQ) ?_; intro hR0
 revert aa
 refine eA 7 rfl krQ (fun _ _ _ h => h) hR0 rfl (fun _ hS => Yld.move hS rfl) ?_
 refine eA 8 rfl krQ (fun _ _ _ h => h) hR0 rfl (fun _ hS => Yld.extract hS rfl rfl) ?_
 refine eA 9 rfl krQ (fun _ _ _ h => h) hR0 rfl (fun _ hS => Yld.extract hS rfl rfl) ?_
 refine qB (t := 25) false rfl (by rfl) ?_
 refine eA 10 rfl krQ (fun _ _ _ h => h) hR0 rfl (fun _ hS => Yld.assign hS rfl) ?_
 refine eA 11 rfl krQ (fun _ _ _ h => h) hR0 rfl (fun _ hS => Yld.assign hS rfl) ?_
 intro aa hS
 refine wpAnyH_done krQ ?_ _; clear hR0
 refine hK357 _ _ ?_
 refine wp_seq_k ?_; intro K358 hK358
 refine wp_region_lit ?_
 revert aa
 refine qN hR ?_
 intro aa hS
 refine wpList_nil ?_
 refine hK358 _ _ ?_
 refine wp_seq_k ?_; intro K359 hK359
 refine wp_seq_k ?_; intro K360 hK360
 refine wp_region_lit ?_
 revert aa
 refine qM hR ?_
 refine qA hR rfl (fun _ hS => Yld.not hS rfl) ?_
 intro aa hS
 refine wpList_nil ?_
 refine hK360 _ _ ?_
 refine condT hS rfl ?_
 refine wp_seq_k ?_; intro K361 hK361
 refine drawn krQ hR Ex.refl ?_; clear hR; intro ww hR hR0
 revert aa
 refine eA 0 rfl krQ (fun _ _ _ h => h) hR0 rfl (fun _ hS => Yld.move hS rfl) ?_
 refine eA 1 rfl krQ (fun _ _ _ h => h) hR0 rfl (fun _ hS => Yld.nilCheck hS rfl) ?_
 refine eA 2 rfl krQ (fun _ _ _ h => h) hR0 rfl (fun _ hS => Yld.fieldAddr hS rfl 0 Try.underlying81 rfl rfl info77 (by decide)) ?_
 refine eA 3 rfl krQ (fun _ _ _ h => h) hR0 rfl (fun _ hS => Yld.fieldAddr hS rfl 1 Try.underlying77 rfl rfl info75 (by decide)) ?_
 refine eA 4 rfl krQ (fun _ _ _ h => h) hR0 rfl (fun _ hS => Yld.load1 hS rfl Try.underlying75 rfl rdQ) ?_
 intro aa hS
 refine dA 5 rfl krQ krQ krQ (fun _ _ _ h => h) hS hR0 (Yld.loadAgg hS rfl Try.underlying35 rfl info35 rdsQ5 (by rfl)) (by decide) ?_; clear hS; intro aa hS
 refine dOne (i := 6) krQ ?_
 refine dop rfl (Bcall hS rfl Try.call36 (Get_ok (k := k) (hR.pk (r := trieA _ _ _ bb _ _) pkQ) hk) (by decide) ?_); clear hS; intro aa ww vv hS hp
 clear hR hR0
 obtain ⟨rfl, hR⟩ := hp
 rw [hT.get2 k, h12.2] at hS
 dsimp only [Option.getD, Option.isSome] at hS
 refine dnext (hR.sub exQ) ?_; intro hR0
 revert aa
 refine eA 7 rfl krQ (fun _ _ _ h => h) hR0 rfl (fun _ hS => Yld.move hS rfl) ?_
 refine eA 8 rfl krQ (fun _ _ _ h => h) hR0 rfl (fun _ hS => Yld.extract hS rfl rfl) ?_
 refine eA 9 rfl krQ (fun _ _ _ h => h) hR0 rfl (fun _ hS => Yld.extract hS rfl rfl) ?_
 refine qB (t := 37) false rfl (by rfl) ?_
 refine eA 10 rfl krQ (fun _ _ _ h => h) hR0 rfl (fun _ hS => Yld.assign hS rfl) ?_
 refine eA 11 rfl krQ (fun _ _ _ h => h) hR0 rfl (fun _ hS => Yld.assign hS rfl) ?_
 intro aa hS
 refine wpAnyH_done krQ ?_ _; clear hR0
 refine hK361 _ _ ?_
 refine wp_region_lit ?_
 revert aa
 refine qM hR ?_
 refine qN hR ?_
 intro aa hS
 refine wpList_nil ?_
 refine hK359 _ _ ?_
 refine wp_seq_k ?_; intro K362 hK362
 refine wp_seq_k ?_; intro K363 hK363
 refine wp_region_lit ?_
 revert aa
 refine qM hR ?_
 refine qA hR rfl (fun _ hS => Yld.not hS rfl) ?_
 intro aa hS
 refine wpList_nil ?_
 refine hK363 _ _ ?_
 refine condT hS rfl ?_
 refine wp_seq_k ?_; intro K364 hK364
 refine wp_region_lit ?_
 refine sA hS hR (Yld.build hS rfl (bld29_)) (by decide) ?_; clear hS; intro aa hS
 refine sB (Bstore hS hR rfl rfl (by rfl) info29 (by rfl) pkQ (by rfl) (Nat.le_of_ble_eq_true rfl) ?_); clear hR; intro ww hR
 revert aa
 refine qN hR ?_
 refine qN hR ?_
 intro aa hS
 refine wpList_nil ?_
 refine hK364 _ _ ?_
 refine wp_ret ?_
 repeat first | with_reducible refine thenR ?_ | with_reducible refine blockR ?_ | with_reducible refine scopeR ?_
 refine retN (fn := Try.f12) (e := .ret) (.inl rfl) Try.results12 hS hR ⟨_, .cons (.agg rfl Try.underlying29 rfl info29 (Rds.cons (Rd.blk pkQ (by rfl)) (Rds.cons (Rd.blk pkQ (by rfl)) (Rds.nil))) (by rfl)) (.cons (.tmp rfl) (.cons (.tmp rfl) (.nil))), rfl, ?_⟩
 try dsimp only [lay, List.set] at hR
 refine ⟨?_, Sep.tableI (t := tt) (b := b) (T := T) hT hS4 (hR.sub exQ)⟩
 rw [fndV_none hn]
theorem Find_own {T : Tb} {S n b : Nat} {l : List HP} {w : World} {k : Ky} {f : Fl} (hfk : fndK T.F k = some f) (hfo : f.k = k) (hk : WfK k) (hR : Sep (tableA tt b S n T :: l) w) : CallR Try.prog 12 [.pointer (some ⟨b, 0, none⟩), vK k] w (fun v w' => v = fndV T.F k ∧ Sep (tableA tt b S n T :: l) w') := by
 refine enter Try.func12 rfl Try.ntmps12 (Nat.le_of_ble_eq_true rfl) ?_; intro aa hS
 obtain ⟨bo, bb, ba, bl, r, c, K1, K2, L, ky, hT, hS4, hR⟩ := (hR.pk (r := tableA _ b _ _ _) pkQ).tableE
 dsimp only at hR
 have hTF := hT.tf
 have hkl := hT.len
 have hwl := (hR.pk (r := linksA _ _ _ bl _ _ _) pkQ).linksWL
 have hbk : Bk r := (hR.pk (r := sls r _ _ _ _ _) pkQ).bk (by have := hTF.ok.pos; have := hTF.size; omega)
 obtain ⟨hf, h1⟩ := hTF.fOwn hfk hfo
 refine wp_seq_k ?_; intro K365 hK365
 refine wp_region_lit ?_
 refine sB (Bbox hS hR rfl (by rfl) (by decide) ?_); clear hS hR; intro aa ww bb3 hS hR
 refine sB (Balloc hS hR info29 (by rfl) (by rfl) (by decide) ?_); clear hS hR; intro aa ww bb4 hS hR
 revert aa
 refine qN hR ?_
 refine qN hR ?_
 intro aa hS
 refine wpList_nil ?_
 refine hK365 _ _ ?_
 refine wp_seq_k ?_; intro K366 hK366
 refine wp_seq_k ?_; intro K367 hK367
 refine wp_region_lit ?_
 revert aa
 refine qM hR ?_
 intro aa hS
 refine sB (Bcall hS rfl Try.call35 (tbsome_ok (hR.pk (r := blk b _ _) pkQ)) (by decide) ?_); clear hS; intro aa ww vv hS hp
 clear hR
 obtain ⟨rfl, hR⟩ := hp
 refine sA hS hR (Yld.not hS rfl) (by decide) ?_; clear hS; intro aa hS
 refine wpList_nil ?_
 refine hK367 _ _ ?_
 refine condF hS rfl ?_
 refine wp_skip ?_
 refine hK366 _ _ ?_
 refine wp_seq_k ?_; intro K368 hK368
 refine drawn krQ hR Ex.refl ?_; clear hR; intro ww hR hR0
 revert aa
 refine eA 0 rfl krQ (fun _ _ _ h => h) hR0 rfl (fun _ hS => Yld.move hS rfl) ?_
 refine eA 1 rfl krQ (fun _ _ _ h => h) hR0 rfl (fun _ hS => Yld.nilCheck hS rfl) ?_
 refine eA 2 rfl krQ (fun _ _ _ h => h) hR0 rfl (fun _ hS => Yld.fieldAddr hS rfl 0 Try.underlying81 rfl rfl info77 (by decide)) ?_
 refine eA 3 rfl krQ (fun _ _ _ h => h) hR0 rfl (fun _ hS => Yld.fieldAddr hS rfl 0 Try.underlying77 rfl rfl info75 (by decide)) ?_
 refine eA 4 rfl krQ (fun _ _ _ h => h) hR0 rfl (fun _ hS => Yld.load1 hS rfl Try.underlying75 rfl rdQ) ?_
 intro aa hS
 refine dA 5 rfl krQ krQ krQ (fun _ _ _ h => h) hS hR0 (Yld.loadAgg hS rfl Try.underlying35 rfl info35 rdsQ5 (by rfl)) (by decide) ?_; clear hS; intro aa hS
 refine dOne (i := 6) krQ ?_
 refine dop rfl (Bcall hS rfl Try.call36 (Get_ok (k := k) (hR.pk (r := trieA _ _ _ bo _ _) pkQ) hk) (by decide) ?_); clear hS; intro aa ww vv hS hp
 clear hR hR0
 obtain ⟨rfl, hR⟩ := hp
 rw [hT.get1 k, h1] at hS
 dsimp only [Option.getD, Option.isSome] at hS
 refine dnext (hR.sub exQ) ?_; intro hR0
 revert aa
 refine eA 7 rfl krQ (fun _ _ _ h => h) hR0 rfl (fun _ hS => Yld.move hS rfl) ?_
 refine eA 8 rfl krQ (fun _ _ _ h => h) hR0 rfl (fun _ hS => Yld.extract hS rfl rfl) ?_
 refine eA 9 rfl krQ (fun _ _ _ h => h) hR0 rfl (fun _ hS => Yld.extract hS rfl rfl) ?_
 refine qB (t := 25) true rfl (by rfl) ?_
 refine eA 10 rfl krQ (fun _ _ _ h => h) hR0 rfl (fun _ hS => Yld.assign hS rfl) ?_
 refine eA 11 rfl krQ (fun _ _ _ h => h) hR0 rfl (fun _ hS => Yld.assign hS rfl) ?_
 intro aa hS
 refine wpAnyH_done krQ ?_ _; clear hR0
 refine hK368 _ _ ?_
 refine wp_seq_k ?_; intro K369 hK369
 refine wp_region_lit ?_
 revert aa
 refine qN hR ?_
 intro aa hS
 refine wpList_nil ?_
 refine hK369 _ _ ?_
 refine wp_seq_k ?_; intro K370 hK370
 refine wp_seq_k ?_; intro K371 hK371
 refine wp_region_lit ?_
 revert aa
 refine qM hR ?_
 refine qA hR rfl (fun _ hS => Yld.not hS rfl) ?_
 intro aa hS
 refine wpList_nil ?_
 refine hK371 _ _ ?_
 refine condF hS rfl ?_
 refine wp_skip ?_
 refine hK370 _ _ ?_
 refine wp_seq_k ?_; intro K372 hK372
 refine wp_seq_k ?_; intro K373 hK373
 refine wp_region_lit ?_
 revert aa
 refine qM hR ?_
 refine qA hR rfl (fun _ hS => Yld.not hS rfl) ?_
 intro aa hS
 refine wpList_nil ?_
 refine hK373 _ _ ?_
 refine condF hS rfl ?_
 refine wp_skip ?_
 refine hK372 _ _ ?_
 refine wp_seq_k ?_; intro K374 hK374
 refine wp_region_lit ?_
 revert aa
 refine qM hR ?_
 refine qA hR rfl (fun _ hS => Yld.nilCheck hS rfl) ?_
 refine qA hR rfl (fun _ hS => Yld.fieldAddr hS rfl 2 Try.underlying81 rfl rfl info78 (by decide)) ?_
 refine qA hR rfl (fun _ hS => Yld.load1 hS rfl Try.underlying78 rfl rdQ) ?_
 refine qM hR ?_
 intro aa hS
 refine sB (Bcall hS rfl Try.call37 (At_okA (s := (f.s : Int)) (hR.pk (r := arena _ _ ba _) pkQ)) (by decide) ?_); clear hS; intro aa ww vv hS hp
 clear hR
 obtain ⟨rfl, hR⟩ := hp
 rw [atV_some (hTF.atf hf)] at hS
 revert aa
 refine qM hR ?_
 refine qX hR ?_
 refine qX hR ?_
 intro aa hS
 refine sB (Balloc hS hR info29 (by rfl) (by rfl) (by decide) ?_); clear hS hR; intro aa ww bb10 hS hR
 refine sB (Bstore hS hR rfl rfl (by rfl) info29 (by rfl) pkQ (by rfl) (Nat.le_of_ble_eq_true rfl) ?_); clear hR; intro ww hR
 revert aa
 refine qN hR ?_
 intro aa hS
 refine wpList_nil ?_
 refine hK374 _ _ ?_
 refine wp_seq_k ?_; intro K375 hK375
 refine wp_region_lit ?_
 refine sA hS hR (Yld.loadAgg hS rfl Try.underlying29 rfl info29 rdsQ2 (by rfl)) (by decide) ?_; clear hS; intro aa hS
 revert aa
 refine qM hR ?_
 intro aa hS
 refine sB (Bstore hS hR rfl rfl (by rfl) info29 (by rfl) pkQ (by rfl) (Nat.le_of_ble_eq_true rfl) ?_); clear hR; intro ww hR
 revert aa
 refine qN hR ?_
 refine qN hR ?_
 intro aa hS
 refine wpList_nil ?_
 refine hK375 _ _ ?_
 refine wp_ret ?_
 repeat first | with_reducible refine thenR ?_ | with_reducible refine blockR ?_ | with_reducible refine scopeR ?_
 refine retN (fn := Try.f12) (e := .ret) (.inl rfl) Try.results12 hS hR ⟨_, .cons (.agg rfl Try.underlying29 rfl info29 (Rds.cons (Rd.blk pkQ (by rfl)) (Rds.cons (Rd.blk pkQ (by rfl)) (Rds.nil))) (by rfl)) (.cons (.tmp rfl) (.cons (.tmp rfl) (.nil))), rfl, ?_⟩
 try dsimp only [lay, List.set] at hR
 refine ⟨?_, Sep.tableI (t := tt) (b := b) (T := T) hT hS4 (hR.sub exQ)⟩
 rw [fndV_some hfk, decide_eq_false (fun h => h hfo)]
theorem Find_turned {T : Tb} {S n b : Nat} {l : List HP} {w : World} {k : Ky} {f : Fl} (hfk : fndK T.F k = some f) (hfo : ¬ f.k = k) (hk : WfK k) (hR : Sep (tableA tt b S n T :: l) w) : CallR Try.prog 12 [.pointer (some ⟨b, 0, none⟩), vK k] w (fun v w' => v = fndV T.F k ∧ Sep (tableA tt b S n T :: l) w') := by
 refine enter Try.func12 rfl Try.ntmps12 (Nat.le_of_ble_eq_true rfl) ?_; intro aa hS
 obtain ⟨bo, bb, ba, bl, r, c, K1, K2, L, ky, hT, hS4, hR⟩ := (hR.pk (r := tableA _ b _ _ _) pkQ).tableE
 dsimp only at hR
 have hTF := hT.tf
 have hkl := hT.len
 have hwl := (hR.pk (r := linksA _ _ _ bl _ _ _) pkQ).linksWL
 have hbk : Bk r := (hR.pk (r := sls r _ _ _ _ _) pkQ).bk (by have := hTF.ok.pos; have := hTF.size; omega)
 obtain ⟨hf, h1, h2⟩ := hTF.fTurn hfk hfo
 refine wp_seq_k ?_; intro K376 hK376
 refine wp_region_lit ?_
 refine sB (Bbox hS hR rfl (by rfl) (by decide) ?_); clear hS hR; intro aa ww bb3 hS hR
 refine sB (Balloc hS hR info29 (by rfl) (by rfl) (by decide) ?_); clear hS hR; intro aa ww bb4 hS hR
 revert aa
 refine qN hR ?_
 refine qN hR ?_
 intro aa hS
 refine wpList_nil ?_
 refine hK376 _ _ ?_
 refine wp_seq_k ?_; intro K377 hK377
 refine wp_seq_k ?_; intro K378 hK378
 refine wp_region_lit ?_
 revert aa
 refine qM hR ?_
 intro aa hS
 refine sB (Bcall hS rfl Try.call35 (tbsome_ok (hR.pk (r := blk b _ _) pkQ)) (by decide) ?_); clear hS; intro aa ww vv hS hp
 clear hR
 obtain ⟨rfl, hR⟩ := hp
 refine sA hS hR (Yld.not hS rfl) (by decide) ?_; clear hS; intro aa hS
 refine wpList_nil ?_
 refine hK378 _ _ ?_
 refine condF hS rfl ?_
 refine wp_skip ?_
 refine hK377 _ _ ?_
 refine wp_seq_k ?_; intro K379 hK379
 refine drawn krQ hR Ex.refl ?_; clear hR; intro ww hR hR0
 revert aa
 refine eA 0 rfl krQ (fun _ _ _ h => h) hR0 rfl (fun _ hS => Yld.move hS rfl) ?_
 refine eA 1 rfl krQ (fun _ _ _ h => h) hR0 rfl (fun _ hS => Yld.nilCheck hS rfl) ?_
 refine eA 2 rfl krQ (fun _ _ _ h => h) hR0 rfl (fun _ hS => Yld.fieldAddr hS rfl 0 Try.underlying81 rfl rfl info77 (by decide)) ?_
 refine eA 3 rfl krQ (fun _ _ _ h => h) hR0 rfl (fun _ hS => Yld.fieldAddr hS rfl 0 Try.underlying77 rfl rfl info75 (by decide)) ?_
 refine eA 4 rfl krQ (fun _ _ _ h => h) hR0 rfl (fun _ hS => Yld.load1 hS rfl Try.underlying75 rfl rdQ) ?_
 intro aa hS
 refine dA 5 rfl krQ krQ krQ (fun _ _ _ h => h) hS hR0 (Yld.loadAgg hS rfl Try.underlying35 rfl info35 rdsQ5 (by rfl)) (by decide) ?_; clear hS; intro aa hS
 refine dOne (i := 6) krQ ?_
 refine dop rfl (Bcall hS rfl Try.call36 (Get_ok (k := k) (hR.pk (r := trieA _ _ _ bo _ _) pkQ) hk) (by decide) ?_); clear hS; intro aa ww vv hS hp
 clear hR hR0
 obtain ⟨rfl, hR⟩ := hp
 rw [hT.get1 k, h1] at hS
 dsimp only [Option.getD, Option.isSome] at hS
 refine dnext (hR.sub exQ) ?_; intro hR0
 revert aa
 refine eA 7 rfl krQ (fun _ _ _ h => h) hR0 rfl (fun _ hS => Yld.move hS rfl) ?_
 refine eA 8 rfl krQ (fun _ _ _ h => h) hR0 rfl (fun _ hS => Yld.extract hS rfl rfl) ?_
 refine eA 9 rfl krQ (fun _ _ _ h => h) hR0 rfl (fun _ hS => Yld.extract hS rfl rfl) ?_
 refine qB (t := 25) false rfl (by rfl) ?_
 refine eA 10 rfl krQ (fun _ _ _ h => h) hR0 rfl (fun _ hS => Yld.assign hS rfl) ?_
 refine eA 11 rfl krQ (fun _ _ _ h => h) hR0 rfl (fun _ hS => Yld.assign hS rfl) ?_
 intro aa hS
 refine wpAnyH_done krQ ?_ _; clear hR0
 refine hK379 _ _ ?_
 refine wp_seq_k ?_; intro K380 hK380
 refine wp_region_lit ?_
 revert aa
 refine qN hR ?_
 intro aa hS
 refine wpList_nil ?_
 refine hK380 _ _ ?_
 refine wp_seq_k ?_; intro K381 hK381
 refine wp_seq_k ?_; intro K382 hK382
 refine wp_region_lit ?_
 revert aa
 refine qM hR ?_
 refine qA hR rfl (fun _ hS => Yld.not hS rfl) ?_
 intro aa hS
 refine wpList_nil ?_
 refine hK382 _ _ ?_
 refine condT hS rfl ?_
 refine wp_seq_k ?_; intro K383 hK383
 refine drawn krQ hR Ex.refl ?_; clear hR; intro ww hR hR0
 revert aa
 refine eA 0 rfl krQ (fun _ _ _ h => h) hR0 rfl (fun _ hS => Yld.move hS rfl) ?_
 refine eA 1 rfl krQ (fun _ _ _ h => h) hR0 rfl (fun _ hS => Yld.nilCheck hS rfl) ?_
 refine eA 2 rfl krQ (fun _ _ _ h => h) hR0 rfl (fun _ hS => Yld.fieldAddr hS rfl 0 Try.underlying81 rfl rfl info77 (by decide)) ?_
 refine eA 3 rfl krQ (fun _ _ _ h => h) hR0 rfl (fun _ hS => Yld.fieldAddr hS rfl 1 Try.underlying77 rfl rfl info75 (by decide)) ?_
 refine eA 4 rfl krQ (fun _ _ _ h => h) hR0 rfl (fun _ hS => Yld.load1 hS rfl Try.underlying75 rfl rdQ) ?_
 intro aa hS
 refine dA 5 rfl krQ krQ krQ (fun _ _ _ h => h) hS hR0 (Yld.loadAgg hS rfl Try.underlying35 rfl info35 rdsQ5 (by rfl)) (by decide) ?_; clear hS; intro aa hS
 refine dOne (i := 6) krQ ?_
 refine dop rfl (Bcall hS rfl Try.call36 (Get_ok (k := k) (hR.pk (r := trieA _ _ _ bb _ _) pkQ) hk) (by decide) ?_); clear hS; intro aa ww vv hS hp
 clear hR hR0
 obtain ⟨rfl, hR⟩ := hp
 rw [hT.get2 k, h2] at hS
 dsimp only [Option.getD, Option.isSome] at hS
 refine dnext (hR.sub exQ) ?_; intro hR0
 revert aa
 refine eA 7 rfl krQ (fun _ _ _ h => h) hR0 rfl (fun _ hS => Yld.move hS rfl) ?_
 refine eA 8 rfl krQ (fun _ _ _ h => h) hR0 rfl (fun _ hS => Yld.extract hS rfl rfl) ?_
 refine eA 9 rfl krQ (fun _ _ _ h => h) hR0 rfl (fun _ hS => Yld.extract hS rfl rfl) ?_
 refine qB (t := 37) true rfl (by rfl) ?_
 refine eA 10 rfl krQ (fun _ _ _ h => h) hR0 rfl (fun _ hS => Yld.assign hS rfl) ?_
 refine eA 11 rfl krQ (fun _ _ _ h => h) hR0 rfl (fun _ hS => Yld.assign hS rfl) ?_
 intro aa hS
 refine wpAnyH_done krQ ?_ _; clear hR0
 refine hK383 _ _ ?_
 refine wp_region_lit ?_
 revert aa
 refine qM hR ?_
 refine qN hR ?_
 intro aa hS
 refine wpList_nil ?_
 refine hK381 _ _ ?_
 refine wp_seq_k ?_; intro K384 hK384
 refine wp_seq_k ?_; intro K385 hK385
 refine wp_region_lit ?_
 revert aa
 refine qM hR ?_
 refine qA hR rfl (fun _ hS => Yld.not hS rfl) ?_
 intro aa hS
 refine wpList_nil ?_
 refine hK385 _ _ ?_
 refine condF hS rfl ?_
 refine wp_skip ?_
 refine hK384 _ _ ?_
 refine wp_seq_k ?_; intro K386 hK386
 refine wp_region_lit ?_
 revert aa
 refine qM hR ?_
 refine qA hR rfl (fun _ hS => Yld.nilCheck hS rfl) ?_
 refine qA hR rfl (fun _ hS => Yld.fieldAddr hS rfl 2 Try.underlying81 rfl rfl info78 (by decide)) ?_
 refine qA hR rfl (fun _ hS => Yld.load1 hS rfl Try.underlying78 rfl rdQ) ?_
 refine qM hR ?_
 intro aa hS
 refine sB (Bcall hS rfl Try.call37 (At_okA (s := (f.s : Int)) (hR.pk (r := arena _ _ ba _) pkQ)) (by decide) ?_); clear hS; intro aa ww vv hS hp
 clear hR
 obtain ⟨rfl, hR⟩ := hp
 rw [atV_some (hTF.atf hf)] at hS
 revert aa
 refine qM hR ?_
 refine qX hR ?_
 refine qX hR ?_
 intro aa hS
 refine sB (Balloc hS hR info29 (by rfl) (by rfl) (by decide) ?_); clear hS hR; intro aa ww bb10 hS hR
 refine sB (Bstore hS hR rfl rfl (by rfl) info29 (by rfl) pkQ (by rfl) (Nat.le_of_ble_eq_true rfl) ?_); clear hR; intro ww hR
 revert aa
 refine qN hR ?_
 intro aa hS
 refine wpList_nil ?_
 refine hK386 _ _ ?_
 refine wp_seq_k ?_; intro K387 hK387
 refine wp_region_lit ?_
 refine sA hS hR (Yld.loadAgg hS rfl Try.underlying29 rfl info29 rdsQ2 (by rfl)) (by decide) ?_; clear hS; intro aa hS
 revert aa
 refine qM hR ?_
 intro aa hS
 refine sB (Bstore hS hR rfl rfl (by rfl) info29 (by rfl) pkQ (by rfl) (Nat.le_of_ble_eq_true rfl) ?_); clear hR; intro ww hR
 revert aa
 refine qN hR ?_
 refine qN hR ?_
 intro aa hS
 refine wpList_nil ?_
 refine hK387 _ _ ?_
 refine wp_ret ?_
 repeat first | with_reducible refine thenR ?_ | with_reducible refine blockR ?_ | with_reducible refine scopeR ?_
 refine retN (fn := Try.f12) (e := .ret) (.inl rfl) Try.results12 hS hR ⟨_, .cons (.agg rfl Try.underlying29 rfl info29 (Rds.cons (Rd.blk pkQ (by rfl)) (Rds.cons (Rd.blk pkQ (by rfl)) (Rds.nil))) (by rfl)) (.cons (.tmp rfl) (.cons (.tmp rfl) (.nil))), rfl, ?_⟩
 try dsimp only [lay, List.set] at hR
 refine ⟨?_, Sep.tableI (t := tt) (b := b) (T := T) hT hS4 (hR.sub exQ)⟩
 rw [fndV_some hfk, decide_eq_true hfo]
theorem Find_ok {T : Tb} {S n b : Nat} {l : List HP} {w : World} {k : Ky} (hk : WfK k) (hR : Sep (tableA tt b S n T :: l) w) : CallR Try.prog 12 [.pointer (some ⟨b, 0, none⟩), vK k] w (fun v w' => v = fndV T.F k ∧ Sep (tableA tt b S n T :: l) w') := by
 cases hfk : fndK T.F k with
 | none => exact Find_no hfk hk hR
 | some f =>
  by_cases hfo : f.k = k
  ·
   exact Find_own hfk hfo hk hR
  ·
   exact Find_turned hfk hfo hk hR
theorem Add_bad {T : Tb} {S n b : Nat} {l : List HP} {w : World} {k : Ky} {i : Int} (hi : ¬ (0 ≤ i ∧ i < n)) (hk : WfK k) (hR : Sep (tableA tt b S n T :: l) w) : CallR Try.prog 18 [.pointer (some ⟨b, 0, none⟩), vK k, .int .i64 i] w (fun v w' => v = .tuple [vH 0 0, .int .i64 2].toArray ∧ Sep (tableA tt b S n T :: l) w') := by
 refine enter Try.func18 rfl Try.ntmps18 (Nat.le_of_ble_eq_true rfl) ?_; intro aa hS
 refine wp_seq_k ?_; intro K388 hK388
 refine wp_region_lit ?_
 refine sB (Bbox hS hR rfl (by rfl) (by decide) ?_); clear hS hR; intro aa ww bb4 hS hR
 refine sB (Balloc hS hR info29 (by rfl) (by rfl) (by decide) ?_); clear hS hR; intro aa ww bb6 hS hR
 revert aa
 refine qN hR ?_
 intro aa hS
 refine wpList_nil ?_
 refine hK388 _ _ ?_
 refine wp_seq_k ?_; intro K389 hK389
 refine wp_seq_k ?_; intro K390 hK390
 refine wp_region_lit ?_
 revert aa
 refine qM hR ?_
 intro aa hS
 refine sB (Bcall hS rfl Try.call35 (tbsome_okT (hR.pk (r := tableA _ b _ _ _) pkQ)) (by decide) ?_); clear hS; intro aa ww vv hS hp
 clear hR
 obtain ⟨rfl, hR⟩ := hp
 refine sA hS hR (Yld.not hS rfl) (by decide) ?_; clear hS; intro aa hS
 refine wpList_nil ?_
 refine hK390 _ _ ?_
 refine condF hS rfl ?_
 refine wp_skip ?_
 refine hK389 _ _ ?_
 refine wp_seq_k ?_; intro K391 hK391
 refine wp_seq_k ?_; intro K392 hK392
 refine wp_region_lit ?_
 revert aa
 refine qM hR ?_
 refine qM hR ?_
 intro aa hS
 refine sB (Bcall hS rfl Try.call42 (tblist_okT (i := i) (hR.pk (r := tableA _ b _ _ _) pkQ)) (by decide) ?_); clear hS; intro aa ww vv hS hp
 clear hR
 obtain ⟨rfl, hR⟩ := hp
 revert aa
 refine qB (t := 19) false rfl (by exact decide_eq_false hi) ?_
 refine qA hR rfl (fun _ hS => Yld.not hS rfl) ?_
 intro aa hS
 refine wpList_nil ?_
 refine hK392 _ _ ?_
 refine condT hS rfl ?_
 refine wp_seq_k ?_; intro K393 hK393
 refine wp_region_lit ?_
 refine sA hS hR (Yld.build hS rfl (bld29_)) (by decide) ?_; clear hS; intro aa hS
 refine sB (Bstore hS hR rfl rfl (by rfl) info29 (by rfl) pkQ (by rfl) (Nat.le_of_ble_eq_true rfl) ?_); clear hR; intro ww hR
 revert aa
 refine qN hR ?_
 intro aa hS
 refine wpList_nil ?_
 refine hK393 _ _ ?_
 refine wp_ret ?_
 repeat first | with_reducible refine thenR ?_ | with_reducible refine blockR ?_ | with_reducible refine scopeR ?_
 refine retN (fn := Try.f18) (e := .ret) (.inl rfl) Try.results18 hS hR ⟨_, .cons (.agg rfl Try.underlying29 rfl info29 (Rds.cons (Rd.blk pkQ (by rfl)) (Rds.cons (Rd.blk pkQ (by rfl)) (Rds.nil))) (by rfl)) (.cons (.tmp rfl) (.nil)), rfl, ?_⟩
 try dsimp only [lay, List.set] at hR
 exact ⟨rfl, (hR.sub exQ)⟩
theorem Add_has {T : Tb} {S n b : Nat} {l : List HP} {w : World} {k : Ky} {i : Int} {f : Fl} (hi : 0 ≤ i ∧ i < n) (hfk : fndK T.F k = some f) (hk : WfK k) (hR : Sep (tableA tt b S n T :: l) w) : CallR Try.prog 18 [.pointer (some ⟨b, 0, none⟩), vK k, .int .i64 i] w (fun v w' => v = .tuple [vH 0 0, .int .i64 160].toArray ∧ Sep (tableA tt b S n T :: l) w') := by
 refine enter Try.func18 rfl Try.ntmps18 (Nat.le_of_ble_eq_true rfl) ?_; intro aa hS
 refine wp_seq_k ?_; intro K394 hK394
 refine wp_region_lit ?_
 refine sB (Bbox hS hR rfl (by rfl) (by decide) ?_); clear hS hR; intro aa ww bb4 hS hR
 refine sB (Balloc hS hR info29 (by rfl) (by rfl) (by decide) ?_); clear hS hR; intro aa ww bb6 hS hR
 revert aa
 refine qN hR ?_
 intro aa hS
 refine wpList_nil ?_
 refine hK394 _ _ ?_
 refine wp_seq_k ?_; intro K395 hK395
 refine wp_seq_k ?_; intro K396 hK396
 refine wp_region_lit ?_
 revert aa
 refine qM hR ?_
 intro aa hS
 refine sB (Bcall hS rfl Try.call35 (tbsome_okT (hR.pk (r := tableA _ b _ _ _) pkQ)) (by decide) ?_); clear hS; intro aa ww vv hS hp
 clear hR
 obtain ⟨rfl, hR⟩ := hp
 refine sA hS hR (Yld.not hS rfl) (by decide) ?_; clear hS; intro aa hS
 refine wpList_nil ?_
 refine hK396 _ _ ?_
 refine condF hS rfl ?_
 refine wp_skip ?_
 refine hK395 _ _ ?_
 refine wp_seq_k ?_; intro K397 hK397
 refine wp_seq_k ?_; intro K398 hK398
 refine wp_region_lit ?_
 revert aa
 refine qM hR ?_
 refine qM hR ?_
 intro aa hS
 refine sB (Bcall hS rfl Try.call42 (tblist_okT (i := i) (hR.pk (r := tableA _ b _ _ _) pkQ)) (by decide) ?_); clear hS; intro aa ww vv hS hp
 clear hR
 obtain ⟨rfl, hR⟩ := hp
 revert aa
 refine qB (t := 19) true rfl (by exact decide_eq_true hi) ?_
 refine qA hR rfl (fun _ hS => Yld.not hS rfl) ?_
 intro aa hS
 refine wpList_nil ?_
 refine hK398 _ _ ?_
 refine condF hS rfl ?_
 refine wp_skip ?_
 refine hK397 _ _ ?_
 refine wp_seq_k ?_; intro K399 hK399
 refine wp_seq_k ?_; intro K400 hK400
 refine wp_region_lit ?_
 revert aa
 refine qM hR ?_
 intro aa hS
 refine sA hS hR (Yld.loadAgg hS rfl Try.underlying35 rfl info35 rdsQ5 (by rfl)) (by decide) ?_; clear hS; intro aa hS
 refine sB (Bcall hS rfl Try.call12 (Find_ok (k := k) hk (hR.pk (r := tableA _ b _ _ _) pkQ)) (by decide) ?_); clear hS; intro aa ww vv hS hp
 clear hR
 obtain ⟨rfl, hR⟩ := hp
 rw [fndV_some hfk] at hS
 revert aa
 refine qM hR ?_
 refine qX hR ?_
 refine qX hR ?_
 refine qX hR ?_
 refine qB (t := 28) true rfl (by rfl) ?_
 intro aa hS
 refine sB (Balloc hS hR info29 (by rfl) (by rfl) (by decide) ?_); clear hS hR; intro aa ww bb8 hS hR
 refine sB (Bstore hS hR rfl rfl (by rfl) info29 (by rfl) pkQ (by rfl) (Nat.le_of_ble_eq_true rfl) ?_); clear hR; intro ww hR
 revert aa
 refine qN hR ?_
 refine qN hR ?_
 intro aa hS
 refine wpList_nil ?_
 refine hK400 _ _ ?_
 refine wp_seq_k ?_; intro K401 hK401
 refine wp_region_lit ?_
 revert aa
 refine qM hR ?_
 intro aa hS
 refine wpList_nil ?_
 refine hK401 _ _ ?_
 refine condT hS rfl ?_
 refine wp_seq_k ?_; intro K402 hK402
 refine wp_region_lit ?_
 refine sA hS hR (Yld.build hS rfl (bld29_)) (by decide) ?_; clear hS; intro aa hS
 refine sB (Bstore hS hR rfl rfl (by rfl) info29 (by rfl) pkQ (by rfl) (Nat.le_of_ble_eq_true rfl) ?_); clear hR; intro ww hR
 revert aa
 refine qN hR ?_
 intro aa hS
 refine wpList_nil ?_
 refine hK402 _ _ ?_
 refine wp_ret ?_
 repeat first | with_reducible refine thenR ?_ | with_reducible refine blockR ?_ | with_reducible refine scopeR ?_
 refine retN (fn := Try.f18) (e := .ret) (.inl rfl) Try.results18 hS hR ⟨_, .cons (.agg rfl Try.underlying29 rfl info29 (Rds.cons (Rd.blk pkQ (by rfl)) (Rds.cons (Rd.blk pkQ (by rfl)) (Rds.nil))) (by rfl)) (.cons (.tmp rfl) (.nil)), rfl, ?_⟩
 try dsimp only [lay, List.set] at hR
 exact ⟨rfl, (hR.sub exQ)⟩
theorem Add_full {T : Tb} {S n b : Nat} {l : List HP} {w : World} {k : Ky} {i : Int} (hi : 0 ≤ i ∧ i < n) (hn : fndK T.F k = none) (he : T.A.free = []) (hk : WfK k) (hR : Sep (tableA tt b S n T :: l) w) : CallR Try.prog 18 [.pointer (some ⟨b, 0, none⟩), vK k, .int .i64 i] w (fun v w' => v = .tuple [vH 0 0, .int .i64 4].toArray ∧ Sep (tableA tt b S n T :: l) w') := by
 refine enter Try.func18 rfl Try.ntmps18 (Nat.le_of_ble_eq_true rfl) ?_; intro aa hS
 refine wp_seq_k ?_; intro K403 hK403
 refine wp_region_lit ?_
 refine sB (Bbox hS hR rfl (by rfl) (by decide) ?_); clear hS hR; intro aa ww bb4 hS hR
 refine sB (Balloc hS hR info29 (by rfl) (by rfl) (by decide) ?_); clear hS hR; intro aa ww bb6 hS hR
 revert aa
 refine qN hR ?_
 intro aa hS
 refine wpList_nil ?_
 refine hK403 _ _ ?_
 refine wp_seq_k ?_; intro K404 hK404
 refine wp_seq_k ?_; intro K405 hK405
 refine wp_region_lit ?_
 revert aa
 refine qM hR ?_
 intro aa hS
 refine sB (Bcall hS rfl Try.call35 (tbsome_okT (hR.pk (r := tableA _ b _ _ _) pkQ)) (by decide) ?_); clear hS; intro aa ww vv hS hp
 clear hR
 obtain ⟨rfl, hR⟩ := hp
 refine sA hS hR (Yld.not hS rfl) (by decide) ?_; clear hS; intro aa hS
 refine wpList_nil ?_
 refine hK405 _ _ ?_
 refine condF hS rfl ?_
 refine wp_skip ?_
 refine hK404 _ _ ?_
 refine wp_seq_k ?_; intro K406 hK406
 refine wp_seq_k ?_; intro K407 hK407
 refine wp_region_lit ?_
 revert aa
 refine qM hR ?_
 refine qM hR ?_
 intro aa hS
 refine sB (Bcall hS rfl Try.call42 (tblist_okT (i := i) (hR.pk (r := tableA _ b _ _ _) pkQ)) (by decide) ?_); clear hS; intro aa ww vv hS hp
 clear hR
 obtain ⟨rfl, hR⟩ := hp
 revert aa
 refine qB (t := 19) true rfl (by exact decide_eq_true hi) ?_
 refine qA hR rfl (fun _ hS => Yld.not hS rfl) ?_
 intro aa hS
 refine wpList_nil ?_
 refine hK407 _ _ ?_
 refine condF hS rfl ?_
 refine wp_skip ?_
 refine hK406 _ _ ?_
 refine wp_seq_k ?_; intro K408 hK408
 refine wp_seq_k ?_; intro K409 hK409
 refine wp_region_lit ?_
 revert aa
 refine qM hR ?_
 intro aa hS
 refine sA hS hR (Yld.loadAgg hS rfl Try.underlying35 rfl info35 rdsQ5 (by rfl)) (by decide) ?_; clear hS; intro aa hS
 refine sB (Bcall hS rfl Try.call12 (Find_ok (k := k) hk (hR.pk (r := tableA _ b _ _ _) pkQ)) (by decide) ?_); clear hS; intro aa ww vv hS hp
 clear hR
 obtain ⟨rfl, hR⟩ := hp
 rw [fndV_none hn] at hS
 revert aa
 refine qM hR ?_
 refine qX hR ?_
 refine qX hR ?_
 refine qX hR ?_
 refine qB (t := 28) false rfl (by rfl) ?_
 intro aa hS
 refine sB (Balloc hS hR info29 (by rfl) (by rfl) (by decide) ?_); clear hS hR; intro aa ww bb8 hS hR
 refine sB (Bstore hS hR rfl rfl (by rfl) info29 (by rfl) pkQ (by rfl) (Nat.le_of_ble_eq_true rfl) ?_); clear hR; intro ww hR
 revert aa
 refine qN hR ?_
 refine qN hR ?_
 intro aa hS
 refine wpList_nil ?_
 refine hK409 _ _ ?_
 refine wp_seq_k ?_; intro K410 hK410
 refine wp_region_lit ?_
 revert aa
 refine qM hR ?_
 intro aa hS
 refine wpList_nil ?_
 refine hK410 _ _ ?_
 refine condF hS rfl ?_
 refine wp_skip ?_
 refine hK408 _ _ ?_
 refine wp_seq_k ?_; intro K411 hK411
 refine wp_region_lit ?_
 revert aa
 refine qM hR ?_
 intro aa hS
 obtain ⟨bo, bb, ba, bl, r, c, K1, K2, L, ky, hT, hS4, hR⟩ := (hR.pk (r := tableA _ b _ _ _) pkQ).tableE
 dsimp only at hR
 have hTF := hT.tf
 have hkl := hT.len
 have hwl := (hR.pk (r := linksA _ _ _ bl _ _ _) pkQ).linksWL
 have hbk : Bk r := (hR.pk (r := sls r _ _ _ _ _) pkQ).bk (by have := hTF.ok.pos; have := hTF.size; omega)
 revert aa
 refine qA hR rfl (fun _ hS => Yld.nilCheck hS rfl) ?_
 refine qA hR rfl (fun _ hS => Yld.fieldAddr hS rfl 2 Try.underlying81 rfl rfl info78 (by decide)) ?_
 refine qA hR rfl (fun _ hS => Yld.load1 hS rfl Try.underlying78 rfl rdQ) ?_
 intro aa hS
 refine sB (Bcall hS rfl Try.call49 (Take_okA (hR.pk (r := arena _ _ ba _) pkQ)) (by decide) ?_); clear hS; intro aa ww vv hS hp
 clear hR
 obtain ⟨rfl, hR⟩ := hp
 rw [Ar.top_nil he] at hS; rw [Ar.take_nil he] at hR
 revert aa
 refine qM hR ?_
 refine qX hR ?_
 refine qX hR ?_
 intro aa hS
 refine sB (Balloc hS hR info29 (by rfl) (by rfl) (by decide) ?_); clear hS hR; intro aa ww bb11 hS hR
 refine sB (Bstore hS hR rfl rfl (by rfl) info29 (by rfl) pkQ (by rfl) (Nat.le_of_ble_eq_true rfl) ?_); clear hR; intro ww hR
 revert aa
 refine qN hR ?_
 intro aa hS
 refine wpList_nil ?_
 refine hK411 _ _ ?_
 refine wp_seq_k ?_; intro K412 hK412
 refine wp_seq_k ?_; intro K413 hK413
 refine wp_region_lit ?_
 revert aa
 refine qM hR ?_
 refine qA hR rfl (fun _ hS => Yld.neq hS rfl rfl) ?_
 refine qB (t := 40) true rfl (by simp) ?_
 intro aa hS
 refine wpList_nil ?_
 refine hK413 _ _ ?_
 refine condT hS rfl ?_
 refine wp_seq_k ?_; intro K414 hK414
 refine wp_region_lit ?_
 revert aa
 refine qA hR rfl (fun _ hS => Yld.build hS rfl (bld29_)) ?_
 refine qM hR ?_
 intro aa hS
 refine sB (Bstore hS hR rfl rfl (by rfl) info29 (by rfl) pkQ (by rfl) (Nat.le_of_ble_eq_true rfl) ?_); clear hR; intro ww hR
 revert aa
 refine qN hR ?_
 intro aa hS
 refine wpList_nil ?_
 refine hK414 _ _ ?_
 refine wp_ret ?_
 repeat first | with_reducible refine thenR ?_ | with_reducible refine blockR ?_ | with_reducible refine scopeR ?_
 refine retN (fn := Try.f18) (e := .ret) (.inl rfl) Try.results18 hS hR ⟨_, .cons (.agg rfl Try.underlying29 rfl info29 (Rds.cons (Rd.blk pkQ (by rfl)) (Rds.cons (Rd.blk pkQ (by rfl)) (Rds.nil))) (by rfl)) (.cons (.tmp rfl) (.nil)), rfl, ?_⟩
 try dsimp only [lay, List.set] at hR
 exact ⟨rfl, Sep.tableI (t := tt) (b := b) (T := T) hT hS4 (hR.sub exQ)⟩
theorem Add_new {T : Tb} {S n b : Nat} {l : List HP} {w : World} {k : Ky} {i s : Nat} {fs : List Nat} (hi : i < n) (hn : fndK T.F k = none) (he : T.A.free = s :: fs) (hk : WfK k) (hR : Sep (tableA tt b S n T :: l) w) : CallR Try.prog 18 [.pointer (some ⟨b, 0, none⟩), vK k, .int .i64 (i : Int)] w (fun v w' => v = .tuple [vH s (T.A.turn[s]?.getD 0), .int .i64 0].toArray ∧ Sep (tableA tt b S n { F := T.F ++ [⟨s, T.A.turn[s]?.getD 0, k, i⟩], A := T.A.take } :: l) w') := by
 refine enter Try.func18 rfl Try.ntmps18 (Nat.le_of_ble_eq_true rfl) ?_; intro aa hS
 refine wp_seq_k ?_; intro K415 hK415
 refine wp_region_lit ?_
 refine sB (Bbox hS hR rfl (by rfl) (by decide) ?_); clear hS hR; intro aa ww bb4 hS hR
 refine sB (Balloc hS hR info29 (by rfl) (by rfl) (by decide) ?_); clear hS hR; intro aa ww bb6 hS hR
 revert aa
 refine qN hR ?_
 intro aa hS
 refine wpList_nil ?_
 refine hK415 _ _ ?_
 refine wp_seq_k ?_; intro K416 hK416
 refine wp_seq_k ?_; intro K417 hK417
 refine wp_region_lit ?_
 revert aa
 refine qM hR ?_
 intro aa hS
 refine sB (Bcall hS rfl Try.call35 (tbsome_okT (hR.pk (r := tableA _ b _ _ _) pkQ)) (by decide) ?_); clear hS; intro aa ww vv hS hp
 clear hR
 obtain ⟨rfl, hR⟩ := hp
 refine sA hS hR (Yld.not hS rfl) (by decide) ?_; clear hS; intro aa hS
 refine wpList_nil ?_
 refine hK417 _ _ ?_
 refine condF hS rfl ?_
 refine wp_skip ?_
 refine hK416 _ _ ?_
 refine wp_seq_k ?_; intro K418 hK418
 refine wp_seq_k ?_; intro K419 hK419
 refine wp_region_lit ?_
 revert aa
 refine qM hR ?_
 refine qM hR ?_
 intro aa hS
 refine sB (Bcall hS rfl Try.call42 (tblist_okT (i := (i : Int)) (hR.pk (r := tableA _ b _ _ _) pkQ)) (by decide) ?_); clear hS; intro aa ww vv hS hp
 clear hR
 obtain ⟨rfl, hR⟩ := hp
 revert aa
 refine qB (t := 19) true rfl (by exact decide_eq_true (by omega)) ?_
 refine qA hR rfl (fun _ hS => Yld.not hS rfl) ?_
 intro aa hS
 refine wpList_nil ?_
 refine hK419 _ _ ?_
 refine condF hS rfl ?_
 refine wp_skip ?_
 refine hK418 _ _ ?_
 refine wp_seq_k ?_; intro K420 hK420
 refine wp_seq_k ?_; intro K421 hK421
 refine wp_region_lit ?_
 revert aa
 refine qM hR ?_
 intro aa hS
 refine sA hS hR (Yld.loadAgg hS rfl Try.underlying35 rfl info35 rdsQ5 (by rfl)) (by decide) ?_; clear hS; intro aa hS
 refine sB (Bcall hS rfl Try.call12 (Find_ok (k := k) hk (hR.pk (r := tableA _ b _ _ _) pkQ)) (by decide) ?_); clear hS; intro aa ww vv hS hp
 clear hR
 obtain ⟨rfl, hR⟩ := hp
 rw [fndV_none hn] at hS
 revert aa
 refine qM hR ?_
 refine qX hR ?_
 refine qX hR ?_
 refine qX hR ?_
 refine qB (t := 28) false rfl (by rfl) ?_
 intro aa hS
 refine sB (Balloc hS hR info29 (by rfl) (by rfl) (by decide) ?_); clear hS hR; intro aa ww bb8 hS hR
 refine sB (Bstore hS hR rfl rfl (by rfl) info29 (by rfl) pkQ (by rfl) (Nat.le_of_ble_eq_true rfl) ?_); clear hR; intro ww hR
 revert aa
 refine qN hR ?_
 refine qN hR ?_
 intro aa hS
 refine wpList_nil ?_
 refine hK421 _ _ ?_
 refine wp_seq_k ?_; intro K422 hK422
 refine wp_region_lit ?_
 revert aa
 refine qM hR ?_
 intro aa hS
 refine wpList_nil ?_
 refine hK422 _ _ ?_
 refine condF hS rfl ?_
 refine wp_skip ?_
 refine hK420 _ _ ?_
 refine wp_seq_k ?_; intro K423 hK423
 refine wp_region_lit ?_
 revert aa
 refine qM hR ?_
 intro aa hS
 obtain ⟨bo, bb, ba, bl, r, c, K1, K2, L, ky, hT, hS4, hR⟩ := (hR.pk (r := tableA _ b _ _ _) pkQ).tableE
 dsimp only at hR
 have hTF := hT.tf
 have hkl := hT.len
 have hwl := (hR.pk (r := linksA _ _ _ bl _ _ _) pkQ).linksWL
 have hbk : Bk r := (hR.pk (r := sls r _ _ _ _ _) pkQ).bk (by have := hTF.ok.pos; have := hTF.size; omega)
 have hs := (hTF.free (s := s) (by rw [he]; exact List.mem_cons_self)).1
 revert aa
 refine qA hR rfl (fun _ hS => Yld.nilCheck hS rfl) ?_
 refine qA hR rfl (fun _ hS => Yld.fieldAddr hS rfl 2 Try.underlying81 rfl rfl info78 (by decide)) ?_
 refine qA hR rfl (fun _ hS => Yld.load1 hS rfl Try.underlying78 rfl rdQ) ?_
 intro aa hS
 refine sB (Bcall hS rfl Try.call49 (Take_okA (hR.pk (r := arena _ _ ba _) pkQ)) (by decide) ?_); clear hS; intro aa ww vv hS hp
 clear hR
 obtain ⟨rfl, hR⟩ := hp
 rw [Ar.top_eq he] at hS
 revert aa
 refine qM hR ?_
 refine qX hR ?_
 refine qX hR ?_
 intro aa hS
 refine sB (Balloc hS hR info29 (by rfl) (by rfl) (by decide) ?_); clear hS hR; intro aa ww bb11 hS hR
 refine sB (Bstore hS hR rfl rfl (by rfl) info29 (by rfl) pkQ (by rfl) (Nat.le_of_ble_eq_true rfl) ?_); clear hR; intro ww hR
 revert aa
 refine qN hR ?_
 intro aa hS
 refine wpList_nil ?_
 refine hK423 _ _ ?_
 refine wp_seq_k ?_; intro K424 hK424
 refine wp_seq_k ?_; intro K425 hK425
 refine wp_region_lit ?_
 revert aa
 refine qM hR ?_
 refine qA hR rfl (fun _ hS => Yld.neq hS rfl rfl) ?_
 refine qB (t := 40) false rfl (by simp) ?_
 intro aa hS
 refine wpList_nil ?_
 refine hK425 _ _ ?_
 refine condF hS rfl ?_
 refine wp_skip ?_
 refine hK424 _ _ ?_
 refine wp_seq_k ?_; intro K426 hK426
 refine drawn krQ hR (Ex.of_pk (r := sls r _ _ _ _ _) pkQ) ?_; clear hR; intro ww hR hR0
 revert aa
 refine eA 0 rfl krQ (fun _ _ _ h => h) hR0 rfl (fun _ hS => Yld.move hS rfl) ?_
 refine eA 1 rfl krQ (fun _ _ _ h => h) hR0 rfl (fun _ hS => Yld.nilCheck hS rfl) ?_
 refine eA 2 rfl krQ (fun _ _ _ h => h) hR0 rfl (fun _ hS => Yld.fieldAddr hS rfl 4 Try.underlying81 rfl rfl info24 (by decide)) ?_
 refine eA 3 rfl krQ (fun _ _ _ h => h) hR0 rfl (fun _ hS => Yld.load1 hS rfl Try.underlying24 rfl rdQ) ?_
 refine eA 4 rfl krQ (fun _ _ _ h => h) hR0 rfl (fun _ hS => Yld.fieldAddr hS rfl 0 Try.underlying29 rfl rfl info3 (by decide)) ?_
 refine eA 5 rfl krQ (fun _ _ _ h => h) hR0 rfl (fun _ hS => Yld.load1 hS rfl Try.underlying3 rfl rdQ) ?_
 intro aa hS
 refine dA 6 rfl krQ krQ krQ (fun _ _ _ h => h) hS hR0 (Yld.loadAgg hS rfl Try.underlying35 rfl info35 rdsQ5 (by rfl)) (by decide) ?_; clear hS; intro aa hS
 revert aa
 refine eA 7 rfl krQ (fun _ _ _ h => h) hR0 rfl (fun _ hS => Yld.indexH (sz := 5) (s) hS rfl rfl Try.underlying24 info35 hbk rfl (by first | rfl | omega) (by omega)) ?_
 intro aa hS
 refine dOne (i := 8) krQ ?_
 refine dop rfl (BstoreR0 (k) hS hR rfl rfl (by rfl) info35 (by rfl) pkQ (by rfl) (by intro _; rfl) (by omega) (by first | exact Nat.le_of_ble_eq_true rfl | (simp only [List.length_singleton]; omega)) (Nat.le_of_ble_eq_true rfl) (by rfl) ?_); clear hR hR0; intro ww hR
 refine dnext (hR.sub exQ) ?_; intro hR0
 refine wpAnyH_done krQ ?_ _; clear hR0
 refine hK426 _ _ ?_
 refine wp_seq_k ?_; intro K427 hK427
 refine drawn krQ hR (Ex.of_pk (r := trieA _ _ _ bo _ _) pkQ) ?_; clear hR; intro ww hR hR0
 revert aa
 refine eA 0 rfl krQ (fun _ _ _ h => h) hR0 rfl (fun _ hS => Yld.move hS rfl) ?_
 refine eA 1 rfl krQ (fun _ _ _ h => h) hR0 rfl (fun _ hS => Yld.nilCheck hS rfl) ?_
 refine eA 2 rfl krQ (fun _ _ _ h => h) hR0 rfl (fun _ hS => Yld.fieldAddr hS rfl 0 Try.underlying81 rfl rfl info77 (by decide)) ?_
 refine eA 3 rfl krQ (fun _ _ _ h => h) hR0 rfl (fun _ hS => Yld.fieldAddr hS rfl 0 Try.underlying77 rfl rfl info75 (by decide)) ?_
 intro aa hS
 refine dA 4 rfl krQ krQ krQ (fun _ _ _ h => h) hS hR0 (Yld.load1 hS rfl Try.underlying75 rfl rdQ) (by decide) ?_; clear hS; intro aa hS
 refine dA 5 rfl krQ krQ krQ (fun _ _ _ h => h) hS hR0 (Yld.loadAgg hS rfl Try.underlying35 rfl info35 rdsQ5 (by rfl)) (by decide) ?_; clear hS; intro aa hS
 revert aa
 refine eA 6 rfl krQ (fun _ _ _ h => h) hR0 rfl (fun _ hS => Yld.fieldAddr hS rfl 0 Try.underlying29 rfl rfl info3 (by decide)) ?_
 refine eA 7 rfl krQ (fun _ _ _ h => h) hR0 rfl (fun _ hS => Yld.load1 hS rfl Try.underlying3 rfl rdQ) ?_
 intro aa hS
 refine dOne (i := 8) krQ ?_
 refine dop rfl (Bcall hS rfl Try.call50 (Put_ok (k := k) (vx := (s : Int)) (hR.pk (r := trieA _ _ _ bo _ _) pkQ) hk) (by decide) ?_); clear hS; intro aa ww vv hS hp
 clear hR hR0
 obtain ⟨rfl, hR⟩ := hp
 refine dnext (hR.sub exQ) ?_; intro hR0
 refine wpAnyH_done krQ ?_ _; clear hR0
 refine hK427 _ _ ?_
 refine wp_seq_k ?_; intro K428 hK428
 refine drawn krQ hR (Ex.of_pk (r := trieA _ _ _ bb _ _) pkQ) ?_; clear hR; intro ww hR hR0
 revert aa
 refine eA 0 rfl krQ (fun _ _ _ h => h) hR0 rfl (fun _ hS => Yld.move hS rfl) ?_
 refine eA 1 rfl krQ (fun _ _ _ h => h) hR0 rfl (fun _ hS => Yld.nilCheck hS rfl) ?_
 refine eA 2 rfl krQ (fun _ _ _ h => h) hR0 rfl (fun _ hS => Yld.fieldAddr hS rfl 0 Try.underlying81 rfl rfl info77 (by decide)) ?_
 refine eA 3 rfl krQ (fun _ _ _ h => h) hR0 rfl (fun _ hS => Yld.fieldAddr hS rfl 1 Try.underlying77 rfl rfl info75 (by decide)) ?_
 refine eA 4 rfl krQ (fun _ _ _ h => h) hR0 rfl (fun _ hS => Yld.load1 hS rfl Try.underlying75 rfl rdQ) ?_
 intro aa hS
 refine dA 5 rfl krQ krQ krQ (fun _ _ _ h => h) hS hR0 (Yld.loadAgg hS rfl Try.underlying35 rfl info35 rdsQ5 (by rfl)) (by decide) ?_; clear hS; intro aa hS
 revert aa
 refine eA 7 rfl krQ (fun _ _ _ h => h) hR0 rfl (fun _ hS => Yld.fieldAddr hS rfl 0 Try.underlying29 rfl rfl info3 (by decide)) ?_
 refine eA 8 rfl krQ (fun _ _ _ h => h) hR0 rfl (fun _ hS => Yld.load1 hS rfl Try.underlying3 rfl rdQ) ?_
 intro aa hS
 refine dOne (i := 6) krQ ?_
 refine dop rfl (Bcall hS rfl Try.call16 (Turn_ok hR) (by decide) ?_); clear hS; intro aa ww vv hS hp
 clear hR hR0
 obtain ⟨rfl, hR⟩ := hp
 refine dnext (hR.sub exQ) ?_; intro hR0
 refine dOne (i := 9) krQ ?_
 refine dop rfl (Bcall hS rfl Try.call50 (Put_ok (k := trn k) (vx := (s : Int)) (hR.pk (r := trieA _ _ _ bb _ _) pkQ) (trn_wf hk)) (by decide) ?_); clear hS; intro aa ww vv hS hp
 clear hR hR0
 obtain ⟨rfl, hR⟩ := hp
 refine dnext (hR.sub exQ) ?_; intro hR0
 refine wpAnyH_done krQ ?_ _; clear hR0
 refine hK428 _ _ ?_
 refine wp_seq_k ?_; intro K429 hK429
 refine drawn krQ hR (Ex.of_pk (r := linksA _ _ _ bl _ _ _) pkQ) ?_; clear hR; intro ww hR hR0
 revert aa
 refine eA 0 rfl krQ (fun _ _ _ h => h) hR0 rfl (fun _ hS => Yld.move hS rfl) ?_
 refine eA 1 rfl krQ (fun _ _ _ h => h) hR0 rfl (fun _ hS => Yld.nilCheck hS rfl) ?_
 refine eA 2 rfl krQ (fun _ _ _ h => h) hR0 rfl (fun _ hS => Yld.fieldAddr hS rfl 3 Try.underlying81 rfl rfl info79 (by decide)) ?_
 refine eA 3 rfl krQ (fun _ _ _ h => h) hR0 rfl (fun _ hS => Yld.load1 hS rfl Try.underlying79 rfl rdQ) ?_
 refine eA 4 rfl krQ (fun _ _ _ h => h) hR0 rfl (fun _ hS => Yld.move hS rfl) ?_
 refine eA 5 rfl krQ (fun _ _ _ h => h) hR0 rfl (fun _ hS => Yld.fieldAddr hS rfl 0 Try.underlying29 rfl rfl info3 (by decide)) ?_
 refine eA 6 rfl krQ (fun _ _ _ h => h) hR0 rfl (fun _ hS => Yld.load1 hS rfl Try.underlying3 rfl rdQ) ?_
 intro aa hS
 refine dOne (i := 7) krQ ?_
 refine dop rfl (Bcall hS rfl Try.call45 (LBack_ok (x := (i : Int)) (y := (s : Int)) (hR.pk (r := linksA _ _ _ bl _ _ _) pkQ)) (by decide) ?_); clear hS; intro aa ww vv hS hp
 clear hR hR0
 obtain ⟨rfl, hR⟩ := hp
 refine dnext (hR.sub exQ) ?_; intro hR0
 refine wpAnyH_done krQ ?_ _; clear hR0
 refine hK429 _ _ ?_
 refine wp_seq_k ?_; intro K430 hK430
 refine wp_region_lit ?_
 refine sA hS hR (Yld.loadAgg hS rfl Try.underlying29 rfl info29 rdsQ2 (by rfl)) (by decide) ?_; clear hS; intro aa hS
 refine sB (Bstore hS hR rfl rfl (by rfl) info29 (by rfl) pkQ (by rfl) (Nat.le_of_ble_eq_true rfl) ?_); clear hR; intro ww hR
 revert aa
 refine qN hR ?_
 intro aa hS
 refine wpList_nil ?_
 refine hK430 _ _ ?_
 refine wp_ret ?_
 repeat first | with_reducible refine thenR ?_ | with_reducible refine blockR ?_ | with_reducible refine scopeR ?_
 refine retN (fn := Try.f18) (e := .ret) (.inl rfl) Try.results18 hS hR ⟨_, .cons (.agg rfl Try.underlying29 rfl info29 (Rds.cons (Rd.blk pkQ (by rfl)) (Rds.cons (Rd.blk pkQ (by rfl)) (Rds.nil))) (by rfl)) (.cons (.tmp rfl) (.nil)), rfl, ?_⟩
 try dsimp only [lay, List.set] at hR
 exact ⟨rfl, Sep.tableI (t := tt) (b := b) (T := { F := T.F ++ [⟨s, T.A.turn[s]?.getD 0, k, i⟩], A := T.A.take }) (hT.add hS4 he hk hi hn) hS4 (hR.sub exQ)⟩
theorem Add_ok {T : Tb} {S n b : Nat} {l : List HP} {w : World} {k : Ky} {i : Int} (hk : WfK k) (hR : Sep (tableA tt b S n T :: l) w) : CallR Try.prog 18 [.pointer (some ⟨b, 0, none⟩), vK k, .int .i64 i] w (fun v w' => v = .tuple [vH (addR T n k i).1.1 (addR T n k i).1.2, .int .i64 (addR T n k i).2].toArray ∧ Sep (tableA tt b S n (addN T n k i) :: l) w') := by
 by_cases hi : 0 ≤ i ∧ i < n
 ·
  cases hf : fndK T.F k with
  | some f =>
   rw [(addR_has hi hf).1, (addR_has hi hf).2]
   exact Add_has hi hf hk hR
  | none =>
   obtain ⟨j, rfl⟩ : ∃ j : Nat, i = j := ⟨i.toNat, by omega⟩
   cases he : T.A.free with
   | nil =>
    rw [(addR_full hi hf he).1, (addR_full hi hf he).2]
    exact Add_full hi hf he hk hR
   | cons s fs =>
    rw [(addR_new (by omega) hf he).1, (addR_new (by omega) hf he).2]
    exact Add_new (by omega) hf he hk hR
 ·
  rw [(addR_bad hi).1, (addR_bad hi).2]
  exact Add_bad hi hk hR
end Go.Proofs.Ythhndmlfgjcgpaa.Sx
