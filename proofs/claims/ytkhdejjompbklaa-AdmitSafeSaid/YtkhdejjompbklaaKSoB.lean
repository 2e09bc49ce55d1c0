/-
 
-/
import Derived.Test.YtkhdejjompbklaaKSoA
namespace Go.Proofs.Ytkhdejjompbklaa.Sx
open Go
set_option maxRecDepth 20000
set_option linter.unusedVariables false
set_option linter.unusedSimpArgs false
theorem info70 : Try.prog.info? 70 = some Try.t70 := by kernel_rfl
theorem soOpen_bad {T : So} {S lim b : Nat} {l : List HP} {w : World} {a : Int} {x : Int} (hx : ¬ (0 ≤ x ∧ x < S)) (ha : 0 ≤ a ∧ a ≤ 4294967295) (hR : Sep (sourceA ss b S lim T :: l) w) : CallR Try.prog 67 [.pointer (some ⟨b, 0, none⟩), .int .u32 a, .int .i64 x] w (fun v w' => v = .int .i64 2 ∧ Sep (sourceA ss b S lim T :: l) w') := by
 refine enter Try.func67 rfl Try.ntmps67 (Nat.le_of_ble_eq_true rfl) ?_; intro aa hS
 obtain ⟨bo, ba, bl, r, c, L, us, hT, hS4, hl6, hR⟩ := (hR.pk (r := sourceA _ b _ _ _) pkQ).sourceE
 dsimp only at hR
 have hSF := hT.sf
 have hul := hT.len
 have hwl := (hR.pk (r := linksA _ _ _ bl _ _ _) pkQ).linksWL
 refine wp_seq_k ?_; intro K455 hK455
 refine wp_region_lit ?_
 revert aa
 refine qN hR ?_
 intro aa hS
 refine wpList_nil ?_
 refine hK455 _ _ ?_
 refine wp_seq_k ?_; intro K456 hK456
 refine wp_block ?_
 refine wp_seq_k ?_; intro K457 hK457
 refine wp_region_lit ?_
 revert aa
 refine qM hR ?_
 intro aa hS
 refine sB (Bcall hS rfl Try.call60 (sonone_ok (hR.pk (r := blk b _ _) pkQ)) (by decide) ?_); clear hS; intro aa ww vv hS hp
 clear hR
 obtain ⟨rfl, hR⟩ := hp
 revert aa
 refine qN hR ?_
 intro aa hS
 refine wpList_nil ?_
 refine hK457 _ _ ?_
 refine condF hS rfl ?_
 refine wp_seq_k ?_; intro K458 hK458
 refine wp_region_lit ?_
 revert aa
 refine qM hR ?_
 refine qM hR ?_
 intro aa hS
 refine sB (Bcall hS rfl Try.call84 (soright_ok (i := x) (hR.pk (r := blk b _ _) pkQ)) (by decide) ?_); clear hS; intro aa ww vv hS hp
 clear hR
 obtain ⟨rfl, hR⟩ := hp
 revert aa
 refine qB (t := 20) false rfl (by exact decide_eq_false hx) ?_
 refine qA hR rfl (fun _ hS => Yld.not hS rfl) ?_
 refine qN hR ?_
 intro aa hS
 refine wpList_nil ?_
 refine hK458 _ _ ?_
 refine condT hS rfl ?_
 refine wp_seq_k ?_; intro K459 hK459
 refine wp_region_lit ?_
 revert aa
 refine qN hR ?_
 intro aa hS
 refine wpList_nil ?_
 refine hK459 _ _ ?_
 refine wp_ret ?_
 repeat first | with_reducible refine thenR ?_ | with_reducible refine blockR ?_ | with_reducible refine scopeR ?_
 refine ret1 (fn := Try.f67) (e := .ret) (.inl rfl) Try.results67 hS hR ⟨_, (.tmp rfl), ?_⟩
 try dsimp only [lay, List.set] at hR
 exact ⟨rfl, Sep.sourceI (t := ss) (b := b) (T := T) hT hS4 hl6 (hR.sub exQ)⟩
theorem soOpen_there {T : So} {S lim b : Nat} {l : List HP} {w : World} {a : Int} {s : Nat} (hs : s < S) {q : Int} (hq : ofO T.O (s : Int) = some q) (ha : 0 ≤ a ∧ a ≤ 4294967295) (hR : Sep (sourceA ss b S lim T :: l) w) : CallR Try.prog 67 [.pointer (some ⟨b, 0, none⟩), .int .u32 a, .int .i64 (s : Int)] w (fun v w' => v = .int .i64 310 ∧ Sep (sourceA ss b S lim T :: l) w') := by
 refine enter Try.func67 rfl Try.ntmps67 (Nat.le_of_ble_eq_true rfl) ?_; intro aa hS
 obtain ⟨bo, ba, bl, r, c, L, us, hT, hS4, hl6, hR⟩ := (hR.pk (r := sourceA _ b _ _ _) pkQ).sourceE
 dsimp only at hR
 have hSF := hT.sf
 have hul := hT.len
 have hwl := (hR.pk (r := linksA _ _ _ bl _ _ _) pkQ).linksWL
 obtain ⟨s2, r0, hss, hsS, hsm, hsr, hqS, hrc, hof, hol, hsl, hua⟩ := hT.ofSome hwl hq
 obtain rfl : s = s2 := by omega
 refine wp_seq_k ?_; intro K460 hK460
 refine wp_region_lit ?_
 revert aa
 refine qN hR ?_
 intro aa hS
 refine wpList_nil ?_
 refine hK460 _ _ ?_
 refine wp_seq_k ?_; intro K461 hK461
 refine wp_block ?_
 refine wp_seq_k ?_; intro K462 hK462
 refine wp_region_lit ?_
 revert aa
 refine qM hR ?_
 intro aa hS
 refine sB (Bcall hS rfl Try.call60 (sonone_ok (hR.pk (r := blk b _ _) pkQ)) (by decide) ?_); clear hS; intro aa ww vv hS hp
 clear hR
 obtain ⟨rfl, hR⟩ := hp
 revert aa
 refine qN hR ?_
 intro aa hS
 refine wpList_nil ?_
 refine hK462 _ _ ?_
 refine condF hS rfl ?_
 refine wp_seq_k ?_; intro K463 hK463
 refine wp_region_lit ?_
 revert aa
 refine qM hR ?_
 refine qM hR ?_
 intro aa hS
 refine sB (Bcall hS rfl Try.call84 (soright_ok (i := (s : Int)) (hR.pk (r := blk b _ _) pkQ)) (by decide) ?_); clear hS; intro aa ww vv hS hp
 clear hR
 obtain ⟨rfl, hR⟩ := hp
 revert aa
 refine qB (t := 20) true rfl (by exact decide_eq_true (by omega)) ?_
 refine qA hR rfl (fun _ hS => Yld.not hS rfl) ?_
 refine qN hR ?_
 intro aa hS
 refine wpList_nil ?_
 refine hK463 _ _ ?_
 refine condF hS rfl ?_
 refine wp_skip ?_
 refine hK461 _ _ ?_
 refine wp_seq_k ?_; intro K464 hK464
 refine wp_seq_k ?_; intro K465 hK465
 refine wp_region_lit ?_
 revert aa
 refine qM hR ?_
 refine qA hR rfl (fun _ hS => Yld.nilCheck hS rfl) ?_
 refine qA hR rfl (fun _ hS => Yld.fieldAddr hS rfl 4 Try.underlying106 rfl rfl info104 (by decide)) ?_
 refine qA hR rfl (fun _ hS => Yld.load1 hS rfl Try.underlying104 rfl rdQ) ?_
 refine qM hR ?_
 intro aa hS
 refine sB (Bcall hS rfl Try.call78 (LOf_ok (x := (s : Int)) (hR.pk (r := linksA _ _ _ bl _ _ _) pkQ)) (by decide) ?_); clear hS; intro aa ww vv hS hp
 clear hR
 obtain ⟨rfl, hR⟩ := hp
 rw [hof] at hS
 dsimp only [optV, Option.getD, Option.isSome] at hS
 revert aa
 refine qM hR ?_
 refine qX hR ?_
 refine qX hR ?_
 refine qB (t := 30) true rfl (by rfl) ?_
 refine qN hR ?_
 refine qN hR ?_
 intro aa hS
 refine wpList_nil ?_
 refine hK465 _ _ ?_
 refine wp_seq_k ?_; intro K466 hK466
 refine wp_region_lit ?_
 revert aa
 refine qM hR ?_
 intro aa hS
 refine wpList_nil ?_
 refine hK466 _ _ ?_
 refine condT hS rfl ?_
 refine wp_seq_k ?_; intro K467 hK467
 refine wp_region_lit ?_
 revert aa
 refine qN hR ?_
 intro aa hS
 refine wpList_nil ?_
 refine hK467 _ _ ?_
 refine wp_ret ?_
 repeat first | with_reducible refine thenR ?_ | with_reducible refine blockR ?_ | with_reducible refine scopeR ?_
 refine ret1 (fn := Try.f67) (e := .ret) (.inl rfl) Try.results67 hS hR ⟨_, (.tmp rfl), ?_⟩
 try dsimp only [lay, List.set] at hR
 exact ⟨rfl, Sep.sourceI (t := ss) (b := b) (T := T) hT hS4 hl6 (hR.sub exQ)⟩
theorem soOpen_full {T : So} {S lim b : Nat} {l : List HP} {w : World} {a : Int} {s : Nat} (hs : s < S) (hn : ofO T.O (s : Int) = none) (hl : lim ≤ (slO T.O a).length) (ha : 0 ≤ a ∧ a ≤ 4294967295) (hR : Sep (sourceA ss b S lim T :: l) w) : CallR Try.prog 67 [.pointer (some ⟨b, 0, none⟩), .int .u32 a, .int .i64 (s : Int)] w (fun v w' => v = .int .i64 4 ∧ Sep (sourceA ss b S lim T :: l) w') := by
 refine enter Try.func67 rfl Try.ntmps67 (Nat.le_of_ble_eq_true rfl) ?_; intro aa hS
 obtain ⟨bo, ba, bl, r, c, L, us, hT, hS4, hl6, hR⟩ := (hR.pk (r := sourceA _ b _ _ _) pkQ).sourceE
 dsimp only at hR
 have hSF := hT.sf
 have hul := hT.len
 have hwl := (hR.pk (r := linksA _ _ _ bl _ _ _) pkQ).linksWL
 refine wp_seq_k ?_; intro K468 hK468
 refine wp_region_lit ?_
 revert aa
 refine qN hR ?_
 intro aa hS
 refine wpList_nil ?_
 refine hK468 _ _ ?_
 refine wp_seq_k ?_; intro K469 hK469
 refine wp_block ?_
 refine wp_seq_k ?_; intro K470 hK470
 refine wp_region_lit ?_
 revert aa
 refine qM hR ?_
 intro aa hS
 refine sB (Bcall hS rfl Try.call60 (sonone_ok (hR.pk (r := blk b _ _) pkQ)) (by decide) ?_); clear hS; intro aa ww vv hS hp
 clear hR
 obtain ⟨rfl, hR⟩ := hp
 revert aa
 refine qN hR ?_
 intro aa hS
 refine wpList_nil ?_
 refine hK470 _ _ ?_
 refine condF hS rfl ?_
 refine wp_seq_k ?_; intro K471 hK471
 refine wp_region_lit ?_
 revert aa
 refine qM hR ?_
 refine qM hR ?_
 intro aa hS
 refine sB (Bcall hS rfl Try.call84 (soright_ok (i := (s : Int)) (hR.pk (r := blk b _ _) pkQ)) (by decide) ?_); clear hS; intro aa ww vv hS hp
 clear hR
 obtain ⟨rfl, hR⟩ := hp
 revert aa
 refine qB (t := 20) true rfl (by exact decide_eq_true (by omega)) ?_
 refine qA hR rfl (fun _ hS => Yld.not hS rfl) ?_
 refine qN hR ?_
 intro aa hS
 refine wpList_nil ?_
 refine hK471 _ _ ?_
 refine condF hS rfl ?_
 refine wp_skip ?_
 refine hK469 _ _ ?_
 refine wp_seq_k ?_; intro K472 hK472
 refine wp_seq_k ?_; intro K473 hK473
 refine wp_region_lit ?_
 revert aa
 refine qM hR ?_
 refine qA hR rfl (fun _ hS => Yld.nilCheck hS rfl) ?_
 refine qA hR rfl (fun _ hS => Yld.fieldAddr hS rfl 4 Try.underlying106 rfl rfl info104 (by decide)) ?_
 refine qA hR rfl (fun _ hS => Yld.load1 hS rfl Try.underlying104 rfl rdQ) ?_
 refine qM hR ?_
 intro aa hS
 refine sB (Bcall hS rfl Try.call78 (LOf_ok (x := (s : Int)) (hR.pk (r := linksA _ _ _ bl _ _ _) pkQ)) (by decide) ?_); clear hS; intro aa ww vv hS hp
 clear hR
 obtain ⟨rfl, hR⟩ := hp
 rw [hT.ofNone hn] at hS
 dsimp only [optV, Option.getD, Option.isSome] at hS
 revert aa
 refine qM hR ?_
 refine qX hR ?_
 refine qX hR ?_
 refine qB (t := 30) false rfl (by rfl) ?_
 refine qN hR ?_
 refine qN hR ?_
 intro aa hS
 refine wpList_nil ?_
 refine hK473 _ _ ?_
 refine wp_seq_k ?_; intro K474 hK474
 refine wp_region_lit ?_
 revert aa
 refine qM hR ?_
 intro aa hS
 refine wpList_nil ?_
 refine hK474 _ _ ?_
 refine condF hS rfl ?_
 refine wp_skip ?_
 refine hK472 _ _ ?_
 refine wp_seq_k ?_; intro K475 hK475
 refine wp_seq_k ?_; intro K476 hK476
 refine drawn krQ hR Ex.refl ?_; clear hR; intro ww hR hR0
 revert aa
 refine eA 0 rfl krQ (fun _ _ _ h => h) hR0 rfl (fun _ hS => Yld.move hS rfl) ?_
 refine eA 1 rfl krQ (fun _ _ _ h => h) hR0 rfl (fun _ hS => Yld.move hS rfl) ?_
 refine eA 3 rfl krQ (fun _ _ _ h => h) hR0 rfl (fun _ hS => Yld.move hS rfl) ?_
 refine eA 4 rfl krQ (fun _ _ _ h => h) hR0 rfl (fun _ hS => Yld.nilCheck hS rfl) ?_
 refine eA 5 rfl krQ (fun _ _ _ h => h) hR0 rfl (fun _ hS => Yld.fieldAddr hS rfl 0 Try.underlying106 rfl rfl info3 (by decide)) ?_
 refine eA 6 rfl krQ (fun _ _ _ h => h) hR0 rfl (fun _ hS => Yld.load1 hS rfl Try.underlying3 rfl rdQ) ?_
 intro aa hS
 refine dOne (i := 2) krQ ?_
 refine dop rfl (Bcall hS rfl Try.call31 (soCountO_ok hT ha (((hR.pk (r := linksA _ _ _ bl _ _ _) pkQ).pk (r := trieA _ _ _ bo _ _) pkQ).pk (r := blk b _ _) pkQ)) (by decide) ?_); clear hS; intro aa ww vv hS hp
 clear hR hR0
 obtain ⟨rfl, hR⟩ := hp
 refine dnext (hR.sub exQ) ?_; intro hR0
 revert aa
 refine eA 7 rfl krQ (fun _ _ _ h => h) hR0 rfl (fun _ hS => Yld.geq hS rfl rfl) ?_
 refine qB (t := 39) true rfl (by exact decide_eq_true (by omega)) ?_
 intro aa hS
 refine wpAnyH_done krQ ?_ _; clear hR0
 refine hK476 _ _ ?_
 refine condT hS rfl ?_
 refine wp_seq_k ?_; intro K477 hK477
 refine wp_region_lit ?_
 revert aa
 refine qN hR ?_
 intro aa hS
 refine wpList_nil ?_
 refine hK477 _ _ ?_
 refine wp_ret ?_
 repeat first | with_reducible refine thenR ?_ | with_reducible refine blockR ?_ | with_reducible refine scopeR ?_
 refine ret1 (fn := Try.f67) (e := .ret) (.inl rfl) Try.results67 hS hR ⟨_, (.tmp rfl), ?_⟩
 try dsimp only [lay, List.set] at hR
 exact ⟨rfl, Sep.sourceI (t := ss) (b := b) (T := T) hT hS4 hl6 (hR.sub exQ)⟩
set_option maxHeartbeats 1000000 in
theorem soOpen_old {T : So} {S lim b : Nat} {l : List HP} {w : World} {a : Int} {s : Nat} (hs : s < S) (hn : ofO T.O (s : Int) = none) (hl : (slO T.O a).length < lim) {q : Nat} (hr : rcR T.R a = some q) (ha : 0 ≤ a ∧ a ≤ 4294967295) (hR : Sep (sourceA ss b S lim T :: l) w) : CallR Try.prog 67 [.pointer (some ⟨b, 0, none⟩), .int .u32 a, .int .i64 (s : Int)] w (fun v w' => v = .int .i64 0 ∧ Sep (sourceA ss b S lim { O := T.O ++ [(a, s)], R := T.R, A := T.A } :: l) w') := by
 refine enter Try.func67 rfl Try.ntmps67 (Nat.le_of_ble_eq_true rfl) ?_; intro aa hS
 obtain ⟨bo, ba, bl, r, c, L, us, hT, hS4, hl6, hR⟩ := (hR.pk (r := sourceA _ b _ _ _) pkQ).sourceE
 dsimp only at hR
 have hSF := hT.sf
 have hul := hT.len
 have hwl := (hR.pk (r := linksA _ _ _ bl _ _ _) pkQ).linksWL
 have hX := hT.addOld ha hs hn hl hr
 rw [addO_old hr] at hX
 refine wp_seq_k ?_; intro K478 hK478
 refine wp_region_lit ?_
 revert aa
 refine qN hR ?_
 intro aa hS
 refine wpList_nil ?_
 refine hK478 _ _ ?_
 refine wp_seq_k ?_; intro K479 hK479
 refine wp_block ?_
 refine wp_seq_k ?_; intro K480 hK480
 refine wp_region_lit ?_
 revert aa
 refine qM hR ?_
 intro aa hS
 refine sB (Bcall hS rfl Try.call60 (sonone_ok (hR.pk (r := blk b _ _) pkQ)) (by decide) ?_); clear hS; intro aa ww vv hS hp
 clear hR
 obtain ⟨rfl, hR⟩ := hp
 revert aa
 refine qN hR ?_
 intro aa hS
 refine wpList_nil ?_
 refine hK480 _ _ ?_
 refine condF hS rfl ?_
 refine wp_seq_k ?_; intro K481 hK481
 refine wp_region_lit ?_
 revert aa
 refine qM hR ?_
 refine qM hR ?_
 intro aa hS
 refine sB (Bcall hS rfl Try.call84 (soright_ok (i := (s : Int)) (hR.pk (r := blk b _ _) pkQ)) (by decide) ?_); clear hS; intro aa ww vv hS hp
 clear hR
 obtain ⟨rfl, hR⟩ := hp
 revert aa
 refine qB (t := 20) true rfl (by exact decide_eq_true (by omega)) ?_
 refine qA hR rfl (fun _ hS => Yld.not hS rfl) ?_
 refine qN hR ?_
 intro aa hS
 refine wpList_nil ?_
 refine hK481 _ _ ?_
 refine condF hS rfl ?_
 refine wp_skip ?_
 refine hK479 _ _ ?_
 refine wp_seq_k ?_; intro K482 hK482
 refine wp_seq_k ?_; intro K483 hK483
 refine wp_region_lit ?_
 revert aa
 refine qM hR ?_
 refine qA hR rfl (fun _ hS => Yld.nilCheck hS rfl) ?_
 refine qA hR rfl (fun _ hS => Yld.fieldAddr hS rfl 4 Try.underlying106 rfl rfl info104 (by decide)) ?_
 refine qA hR rfl (fun _ hS => Yld.load1 hS rfl Try.underlying104 rfl rdQ) ?_
 refine qM hR ?_
 intro aa hS
 refine sB (Bcall hS rfl Try.call78 (LOf_ok (x := (s : Int)) (hR.pk (r := linksA _ _ _ bl _ _ _) pkQ)) (by decide) ?_); clear hS; intro aa ww vv hS hp
 clear hR
 obtain ⟨rfl, hR⟩ := hp
 rw [hT.ofNone hn] at hS
 dsimp only [optV, Option.getD, Option.isSome] at hS
 revert aa
 refine qM hR ?_
 refine qX hR ?_
 refine qX hR ?_
 refine qB (t := 30) false rfl (by rfl) ?_
 refine qN hR ?_
 refine qN hR ?_
 intro aa hS
 refine wpList_nil ?_
 refine hK483 _ _ ?_
 refine wp_seq_k ?_; intro K484 hK484
 refine wp_region_lit ?_
 revert aa
 refine qM hR ?_
 intro aa hS
 refine wpList_nil ?_
 refine hK484 _ _ ?_
 refine condF hS rfl ?_
 refine wp_skip ?_
 refine hK482 _ _ ?_
 refine wp_seq_k ?_; intro K485 hK485
 refine wp_seq_k ?_; intro K486 hK486
 refine drawn krQ hR Ex.refl ?_; clear hR; intro ww hR hR0
 revert aa
 refine eA 0 rfl krQ (fun _ _ _ h => h) hR0 rfl (fun _ hS => Yld.move hS rfl) ?_
 refine eA 1 rfl krQ (fun _ _ _ h => h) hR0 rfl (fun _ hS => Yld.move hS rfl) ?_
 refine eA 3 rfl krQ (fun _ _ _ h => h) hR0 rfl (fun _ hS => Yld.move hS rfl) ?_
 refine eA 4 rfl krQ (fun _ _ _ h => h) hR0 rfl (fun _ hS => Yld.nilCheck hS rfl) ?_
 refine eA 5 rfl krQ (fun _ _ _ h => h) hR0 rfl (fun _ hS => Yld.fieldAddr hS rfl 0 Try.underlying106 rfl rfl info3 (by decide)) ?_
 refine eA 6 rfl krQ (fun _ _ _ h => h) hR0 rfl (fun _ hS => Yld.load1 hS rfl Try.underlying3 rfl rdQ) ?_
 intro aa hS
 refine dOne (i := 2) krQ ?_
 refine dop rfl (Bcall hS rfl Try.call31 (soCountO_ok hT ha (((hR.pk (r := linksA _ _ _ bl _ _ _) pkQ).pk (r := trieA _ _ _ bo _ _) pkQ).pk (r := blk b _ _) pkQ)) (by decide) ?_); clear hS; intro aa ww vv hS hp
 clear hR hR0
 obtain ⟨rfl, hR⟩ := hp
 refine dnext (hR.sub exQ) ?_; intro hR0
 revert aa
 refine eA 7 rfl krQ (fun _ _ _ h => h) hR0 rfl (fun _ hS => Yld.geq hS rfl rfl) ?_
 refine qB (t := 39) false rfl (by exact decide_eq_false (by omega)) ?_
 intro aa hS
 refine wpAnyH_done krQ ?_ _; clear hR0
 refine hK486 _ _ ?_
 refine condF hS rfl ?_
 refine wp_skip ?_
 refine hK485 _ _ ?_
 refine wp_seq_k ?_; intro K487 hK487
 refine wp_region_lit ?_
 revert aa
 refine qM hR ?_
 refine qA hR rfl (fun _ hS => Yld.makeFunc hS rfl rfl) ?_
 refine qN hR ?_
 intro aa hS
 refine wpList_nil ?_
 refine hK487 _ _ ?_
 refine wp_seq_k ?_; intro K488 hK488
 refine drawn krQ hR Ex.refl ?_; clear hR; intro ww hR hR0
 revert aa
 refine eA 0 rfl krQ (fun _ _ _ h => h) hR0 rfl (fun _ hS => Yld.move hS rfl) ?_
 refine eA 1 rfl krQ (fun _ _ _ h => h) hR0 rfl (fun _ hS => Yld.nilCheck hS rfl) ?_
 refine eA 2 rfl krQ (fun _ _ _ h => h) hR0 rfl (fun _ hS => Yld.fieldAddr hS rfl 2 Try.underlying106 rfl rfl info103 (by decide)) ?_
 refine eA 3 rfl krQ (fun _ _ _ h => h) hR0 rfl (fun _ hS => Yld.load1 hS rfl Try.underlying103 rfl rdQ) ?_
 refine eA 4 rfl krQ (fun _ _ _ h => h) hR0 rfl (fun _ hS => Yld.move hS rfl) ?_
 intro aa hS
 refine dOne (i := 5) krQ ?_
 refine dop rfl (BcallV (first := [.int .u32 a]) (caps := []) hS rfl rfl Try.call69 (sokey_ok hR) (by decide) ?_); clear hS; intro aa ww vv hS hp
 clear hR hR0
 obtain ⟨rfl, hR⟩ := hp
 refine dnext (hR.sub exQ) ?_; intro hR0
 refine dOne (i := 6) krQ ?_
 refine dop rfl (Bcall hS rfl Try.call68 (Get_ok (k := kA a) (hR.pk (r := trieA _ _ _ bo _ _) pkQ) (kA_wf ha)) (by decide) ?_); clear hS; intro aa ww vv hS hp
 clear hR hR0
 obtain ⟨rfl, hR⟩ := hp
 rw [ix_get, hr] at hS
 dsimp only [Option.map, Option.getD, Option.isSome] at hS
 refine dnext (hR.sub exQ) ?_; intro hR0
 revert aa
 refine eA 7 rfl krQ (fun _ _ _ h => h) hR0 rfl (fun _ hS => Yld.move hS rfl) ?_
 refine eA 8 rfl krQ (fun _ _ _ h => h) hR0 rfl (fun _ hS => Yld.extract hS rfl rfl) ?_
 refine eA 9 rfl krQ (fun _ _ _ h => h) hR0 rfl (fun _ hS => Yld.extract hS rfl rfl) ?_
 refine qB (t := 51) true rfl (by rfl) ?_
 refine eA 10 rfl krQ (fun _ _ _ h => h) hR0 rfl (fun _ hS => Yld.assign hS rfl) ?_
 refine eA 11 rfl krQ (fun _ _ _ h => h) hR0 rfl (fun _ hS => Yld.assign hS rfl) ?_
 intro aa hS
 refine wpAnyH_done krQ ?_ _; clear hR0
 refine hK488 _ _ ?_
 refine wp_seq_k ?_; intro K489 hK489
 refine wp_seq_k ?_; intro K490 hK490
 refine wp_region_lit ?_
 revert aa
 refine qM hR ?_
 refine qA hR rfl (fun _ hS => Yld.not hS rfl) ?_
 intro aa hS
 refine wpList_nil ?_
 refine hK490 _ _ ?_
 refine condF hS rfl ?_
 refine wp_skip ?_
 refine hK489 _ _ ?_
 refine wp_seq_k ?_; intro K491 hK491
 refine wp_region_lit ?_
 revert aa
 refine qM hR ?_
 refine qA hR rfl (fun _ hS => Yld.nilCheck hS rfl) ?_
 refine qA hR rfl (fun _ hS => Yld.fieldAddr hS rfl 4 Try.underlying106 rfl rfl info104 (by decide)) ?_
 refine qA hR rfl (fun _ hS => Yld.load1 hS rfl Try.underlying104 rfl rdQ) ?_
 refine qM hR ?_
 refine qM hR ?_
 intro aa hS
 refine sB (Bcall hS rfl Try.call79 (LBack_ok (x := (q : Int)) (y := (s : Int)) (hR.pk (r := linksA _ _ _ bl _ _ _) pkQ)) (by decide) ?_); clear hS; intro aa ww vv hS hp
 clear hR
 obtain ⟨rfl, hR⟩ := hp
 refine wpList_nil ?_
 refine hK491 _ _ ?_
 refine wp_seq_k ?_; intro K492 hK492
 refine wp_region_lit ?_
 revert aa
 refine qM hR ?_
 refine qA hR rfl (fun _ hS => Yld.nilCheck hS rfl) ?_
 refine qA hR rfl (fun _ hS => Yld.fieldAddr hS rfl 1 Try.underlying106 rfl rfl info102 (by decide)) ?_
 refine qA hR rfl (fun _ hS => Yld.load1 hS rfl Try.underlying102 rfl rdQ) ?_
 refine qM hR ?_
 refine qM hR ?_
 refine qA hR rfl (fun _ hS => ilQ 1 (s) Try.underlying102 info25) ?_
 intro aa hS
 refine sB (BstoreR0 (a) hS hR rfl rfl (by rfl) info25 (by rfl) pkQ (by rfl) (by intro _; rfl) (by omega) (by first | exact Nat.le_of_ble_eq_true rfl | (simp only [List.length_singleton]; omega)) (Nat.le_of_ble_eq_true rfl) (by rfl) ?_); clear hR; intro ww hR
 refine wpList_nil ?_
 refine hK492 _ _ ?_
 refine wp_seq_k ?_; intro K493 hK493
 refine wp_region_lit ?_
 revert aa
 refine qN hR ?_
 intro aa hS
 refine wpList_nil ?_
 refine hK493 _ _ ?_
 refine wp_ret ?_
 repeat first | with_reducible refine thenR ?_ | with_reducible refine blockR ?_ | with_reducible refine scopeR ?_
 refine ret1 (fn := Try.f67) (e := .ret) (.inl rfl) Try.results67 hS hR ⟨_, (.tmp rfl), ?_⟩
 try dsimp only [lay, List.set] at hR
 exact ⟨rfl, Sep.sourceI (t := ss) (b := b) (T := { O := T.O ++ [(a, s)], R := T.R, A := T.A }) hX hS4 hl6 (hR.sub exQ)⟩
set_option maxHeartbeats 1000000 in
theorem soOpen_new {T : So} {S lim b : Nat} {l : List HP} {w : World} {a : Int} {s : Nat} (hs : s < S) (hn : ofO T.O (s : Int) = none) (hl : (slO T.O a).length < lim) {q : Nat} {fs : List Nat} (hr : rcR T.R a = none) (he : T.A.free = q :: fs) (ha : 0 ≤ a ∧ a ≤ 4294967295) (hR : Sep (sourceA ss b S lim T :: l) w) : CallR Try.prog 67 [.pointer (some ⟨b, 0, none⟩), .int .u32 a, .int .i64 (s : Int)] w (fun v w' => v = .int .i64 0 ∧ Sep (sourceA ss b S lim { O := T.O ++ [(a, s)], R := T.R ++ [(a, q)], A := T.A.take } :: l) w') := by
 refine enter Try.func67 rfl Try.ntmps67 (Nat.le_of_ble_eq_true rfl) ?_; intro aa hS
 obtain ⟨bo, ba, bl, r, c, L, us, hT, hS4, hl6, hR⟩ := (hR.pk (r := sourceA _ b _ _ _) pkQ).sourceE
 dsimp only at hR
 have hSF := hT.sf
 have hul := hT.len
 have hwl := (hR.pk (r := linksA _ _ _ bl _ _ _) pkQ).linksWL
 have hX := hT.addNew ha hs hn hl hr he
 rw [addO_new hr he] at hX
 have hro := hSF.oroom hs hn
 have hrl := hSF.rleo
 refine wp_seq_k ?_; intro K494 hK494
 refine wp_region_lit ?_
 revert aa
 refine qN hR ?_
 intro aa hS
 refine wpList_nil ?_
 refine hK494 _ _ ?_
 refine wp_seq_k ?_; intro K495 hK495
 refine wp_block ?_
 refine wp_seq_k ?_; intro K496 hK496
 refine wp_region_lit ?_
 revert aa
 refine qM hR ?_
 intro aa hS
 refine sB (Bcall hS rfl Try.call60 (sonone_ok (hR.pk (r := blk b _ _) pkQ)) (by decide) ?_); clear hS; intro aa ww vv hS hp
 clear hR
 obtain ⟨rfl, hR⟩ := hp
 revert aa
 refine qN hR ?_
 intro aa hS
 refine wpList_nil ?_
 refine hK496 _ _ ?_
 refine condF hS rfl ?_
 refine wp_seq_k ?_; intro K497 hK497
 refine wp_region_lit ?_
 revert aa
 refine qM hR ?_
 refine qM hR ?_
 intro aa hS
 refine sB (Bcall hS rfl Try.call84 (soright_ok (i := (s : Int)) (hR.pk (r := blk b _ _) pkQ)) (by decide) ?_); clear hS; intro aa ww vv hS hp
 clear hR
 obtain ⟨rfl, hR⟩ := hp
 revert aa
 refine qB (t := 20) true rfl (by exact decide_eq_true (by omega)) ?_
 refine qA hR rfl (fun _ hS => Yld.not hS rfl) ?_
 refine qN hR ?_
 intro aa hS
 refine wpList_nil ?_
 refine hK497 _ _ ?_
 refine condF hS rfl ?_
 refine wp_skip ?_
 refine hK495 _ _ ?_
 refine wp_seq_k ?_; intro K498 hK498
 refine wp_seq_k ?_; intro K499 hK499
 refine wp_region_lit ?_
 revert aa
 refine qM hR ?_
 refine qA hR rfl (fun _ hS => Yld.nilCheck hS rfl) ?_
 refine qA hR rfl (fun _ hS => Yld.fieldAddr hS rfl 4 Try.underlying106 rfl rfl info104 (by decide)) ?_
 intro aa hS
 refine sA hS hR (Yld.load1 hS rfl Try.underlying104 rfl rdQ) (by decide) ?_; clear hS; intro aa hS
 revert aa
 refine qM hR ?_
 intro aa hS
 refine sB (Bcall hS rfl Try.call78 (LOf_ok (x := (s : Int)) (hR.pk (r := linksA _ _ _ bl _ _ _) pkQ)) (by decide) ?_); clear hS; intro aa ww vv hS hp
 clear hR
 obtain ⟨rfl, hR⟩ := hp
 rw [hT.ofNone hn] at hS
 dsimp only [optV, Option.getD, Option.isSome] at hS
 revert aa
 refine qM hR ?_
 refine qX hR ?_
 refine qX hR ?_
 refine qB (t := 30) false rfl (by rfl) ?_
 refine qN hR ?_
 refine qN hR ?_
 intro aa hS
 refine wpList_nil ?_
 refine hK499 _ _ ?_
 refine wp_seq_k ?_; intro K500 hK500
 refine wp_region_lit ?_
 revert aa
 refine qM hR ?_
 intro aa hS
 refine wpList_nil ?_
 refine hK500 _ _ ?_
 refine condF hS rfl ?_
 refine wp_skip ?_
 refine hK498 _ _ ?_
 refine wp_seq_k ?_; intro K501 hK501
 refine wp_seq_k ?_; intro K502 hK502
 refine drawn krQ hR Ex.refl ?_; clear hR; intro ww hR hR0
 revert aa
 refine eA 0 rfl krQ (fun _ _ _ h => h) hR0 rfl (fun _ hS => Yld.move hS rfl) ?_
 refine eA 1 rfl krQ (fun _ _ _ h => h) hR0 rfl (fun _ hS => Yld.move hS rfl) ?_
 refine eA 3 rfl krQ (fun _ _ _ h => h) hR0 rfl (fun _ hS => Yld.move hS rfl) ?_
 refine eA 4 rfl krQ (fun _ _ _ h => h) hR0 rfl (fun _ hS => Yld.nilCheck hS rfl) ?_
 refine eA 5 rfl krQ (fun _ _ _ h => h) hR0 rfl (fun _ hS => Yld.fieldAddr hS rfl 0 Try.underlying106 rfl rfl info3 (by decide)) ?_
 refine eA 6 rfl krQ (fun _ _ _ h => h) hR0 rfl (fun _ hS => Yld.load1 hS rfl Try.underlying3 rfl rdQ) ?_
 intro aa hS
 refine dOne (i := 2) krQ ?_
 refine dop rfl (Bcall hS rfl Try.call31 (soCountO_ok hT ha (((hR.pk (r := linksA _ _ _ bl _ _ _) pkQ).pk (r := trieA _ _ _ bo _ _) pkQ).pk (r := blk b _ _) pkQ)) (by decide) ?_); clear hS; intro aa ww vv hS hp
 clear hR hR0
 obtain ⟨rfl, hR⟩ := hp
 refine dnext (hR.sub exQ) ?_; intro hR0
 revert aa
 refine eA 7 rfl krQ (fun _ _ _ h => h) hR0 rfl (fun _ hS => Yld.geq hS rfl rfl) ?_
 refine qB (t := 39) false rfl (by exact decide_eq_false (by omega)) ?_
 intro aa hS
 refine wpAnyH_done krQ ?_ _; clear hR0
 refine hK502 _ _ ?_
 refine condF hS rfl ?_
 refine wp_skip ?_
 refine hK501 _ _ ?_
 refine wp_seq_k ?_; intro K503 hK503
 refine wp_region_lit ?_
 revert aa
 refine qM hR ?_
 refine qA hR rfl (fun _ hS => Yld.makeFunc hS rfl rfl) ?_
 refine qN hR ?_
 intro aa hS
 refine wpList_nil ?_
 refine hK503 _ _ ?_
 refine wp_seq_k ?_; intro K504 hK504
 refine drawn krQ hR Ex.refl ?_; clear hR; intro ww hR hR0
 revert aa
 refine eA 0 rfl krQ (fun _ _ _ h => h) hR0 rfl (fun _ hS => Yld.move hS rfl) ?_
 refine eA 1 rfl krQ (fun _ _ _ h => h) hR0 rfl (fun _ hS => Yld.nilCheck hS rfl) ?_
 refine eA 2 rfl krQ (fun _ _ _ h => h) hR0 rfl (fun _ hS => Yld.fieldAddr hS rfl 2 Try.underlying106 rfl rfl info103 (by decide)) ?_
 refine eA 3 rfl krQ (fun _ _ _ h => h) hR0 rfl (fun _ hS => Yld.load1 hS rfl Try.underlying103 rfl rdQ) ?_
 refine eA 4 rfl krQ (fun _ _ _ h => h) hR0 rfl (fun _ hS => Yld.move hS rfl) ?_
 intro aa hS
 refine dOne (i := 5) krQ ?_
 refine dop rfl (BcallV (first := [.int .u32 a]) (caps := []) hS rfl rfl Try.call69 (sokey_ok hR) (by decide) ?_); clear hS; intro aa ww vv hS hp
 clear hR hR0
 obtain ⟨rfl, hR⟩ := hp
 refine dnext (hR.sub exQ) ?_; intro hR0
 refine dOne (i := 6) krQ ?_
 refine dop rfl (Bcall hS rfl Try.call68 (Get_ok (k := kA a) (hR.pk (r := trieA _ _ _ bo _ _) pkQ) (kA_wf ha)) (by decide) ?_); clear hS; intro aa ww vv hS hp
 clear hR hR0
 obtain ⟨rfl, hR⟩ := hp
 rw [ix_get, hr] at hS
 dsimp only [Option.map, Option.getD, Option.isSome] at hS
 refine dnext (hR.sub exQ) ?_; intro hR0
 revert aa
 refine eA 7 rfl krQ (fun _ _ _ h => h) hR0 rfl (fun _ hS => Yld.move hS rfl) ?_
 refine eA 8 rfl krQ (fun _ _ _ h => h) hR0 rfl (fun _ hS => Yld.extract hS rfl rfl) ?_
 refine eA 9 rfl krQ (fun _ _ _ h => h) hR0 rfl (fun _ hS => Yld.extract hS rfl rfl) ?_
 refine qB (t := 51) false rfl (by rfl) ?_
 refine eA 10 rfl krQ (fun _ _ _ h => h) hR0 rfl (fun _ hS => Yld.assign hS rfl) ?_
 refine eA 11 rfl krQ (fun _ _ _ h => h) hR0 rfl (fun _ hS => Yld.assign hS rfl) ?_
 intro aa hS
 refine wpAnyH_done krQ ?_ _; clear hR0
 refine hK504 _ _ ?_
 refine wp_seq_k ?_; intro K505 hK505
 refine wp_seq_k ?_; intro K506 hK506
 refine wp_region_lit ?_
 revert aa
 refine qM hR ?_
 refine qA hR rfl (fun _ hS => Yld.not hS rfl) ?_
 intro aa hS
 refine wpList_nil ?_
 refine hK506 _ _ ?_
 refine condT hS rfl ?_
 refine wp_seq_k ?_; intro K507 hK507
 refine wp_region_lit ?_
 revert aa
 refine qM hR ?_
 refine qA hR rfl (fun _ hS => Yld.nilCheck hS rfl) ?_
 refine qA hR rfl (fun _ hS => Yld.fieldAddr hS rfl 3 Try.underlying106 rfl rfl info70 (by decide)) ?_
 refine qA hR rfl (fun _ hS => Yld.load1 hS rfl Try.underlying70 rfl rdQ) ?_
 intro aa hS
 refine sB (Bcall hS rfl Try.call66 (Take_okA (hR.pk (r := arena _ _ ba _) pkQ)) (by decide) ?_); clear hS; intro aa ww vv hS hp
 clear hR
 obtain ⟨rfl, hR⟩ := hp
 rw [Ar.top_eq he] at hS
 revert aa
 refine qM hR ?_
 refine qX hR ?_
 refine qX hR ?_
 intro aa hS
 refine sB (Balloc hS hR info116 (by rfl) (by rfl) (by decide) ?_); clear hS hR; intro aa ww bb12 hS hR
 refine sB (Bstore hS hR rfl rfl (by rfl) info116 (by rfl) pkQ (by rfl) (Nat.le_of_ble_eq_true rfl) ?_); clear hR; intro ww hR
 revert aa
 refine qN hR ?_
 intro aa hS
 refine wpList_nil ?_
 refine hK507 _ _ ?_
 refine wp_seq_k ?_; intro K508 hK508
 refine wp_region_lit ?_
 revert aa
 refine qA hR rfl (fun _ hS => Yld.fieldAddr hS rfl 0 Try.underlying116 rfl rfl info3 (by decide)) ?_
 refine qA hR rfl (fun _ hS => Yld.load1 hS rfl Try.underlying3 rfl rdQ) ?_
 refine qN hR ?_
 intro aa hS
 refine wpList_nil ?_
 refine hK508 _ _ ?_
 refine drawn krQ hR (Ex.of_pk (r := trieA _ _ _ bo _ _) pkQ) ?_; clear hR; intro ww hR hR0
 revert aa
 refine eA 0 rfl krQ (fun _ _ _ h => h) hR0 rfl (fun _ hS => Yld.move hS rfl) ?_
 refine eA 1 rfl krQ (fun _ _ _ h => h) hR0 rfl (fun _ hS => Yld.nilCheck hS rfl) ?_
 refine eA 2 rfl krQ (fun _ _ _ h => h) hR0 rfl (fun _ hS => Yld.fieldAddr hS rfl 2 Try.underlying106 rfl rfl info103 (by decide)) ?_
 refine eA 3 rfl krQ (fun _ _ _ h => h) hR0 rfl (fun _ hS => Yld.load1 hS rfl Try.underlying103 rfl rdQ) ?_
 refine eA 4 rfl krQ (fun _ _ _ h => h) hR0 rfl (fun _ hS => Yld.move hS rfl) ?_
 refine eA 6 rfl krQ (fun _ _ _ h => h) hR0 rfl (fun _ hS => Yld.move hS rfl) ?_
 intro aa hS
 refine dOne (i := 5) krQ ?_
 refine dop rfl (BcallV (first := [.int .u32 a]) (caps := []) hS rfl rfl Try.call69 (sokey_ok hR) (by decide) ?_); clear hS; intro aa ww vv hS hp
 clear hR hR0
 obtain ⟨rfl, hR⟩ := hp
 refine dnext (hR.sub exQ) ?_; intro hR0
 refine dOne (i := 7) krQ ?_
 refine dop rfl (Bcall hS rfl Try.call87 (Put_ok (k := kA a) (vx := (q : Int)) (hR.pk (r := trieA _ _ _ bo _ _) pkQ) (kA_wf ha)) (by decide) ?_); clear hS; intro aa ww vv hS hp
 clear hR hR0
 obtain ⟨rfl, hR⟩ := hp
 rw [ix_put hr (by omega)] at hR
 refine dnext (hR.sub exQ) ?_; intro hR0
 refine wpAnyH_done krQ ?_ _; clear hR0
 refine hK505 _ _ ?_
 refine wp_seq_k ?_; intro K509 hK509
 refine wp_region_lit ?_
 revert aa
 refine qM hR ?_
 refine qA hR rfl (fun _ hS => Yld.nilCheck hS rfl) ?_
 refine qA hR rfl (fun _ hS => Yld.fieldAddr hS rfl 4 Try.underlying106 rfl rfl info104 (by decide)) ?_
 refine qA hR rfl (fun _ hS => Yld.load1 hS rfl Try.underlying104 rfl rdQ) ?_
 refine qM hR ?_
 refine qM hR ?_
 intro aa hS
 refine sB (Bcall hS rfl Try.call79 (LBack_ok (x := (q : Int)) (y := (s : Int)) (hR.pk (r := linksA _ _ _ bl _ _ _) pkQ)) (by decide) ?_); clear hS; intro aa ww vv hS hp
 clear hR
 obtain ⟨rfl, hR⟩ := hp
 refine wpList_nil ?_
 refine hK509 _ _ ?_
 refine wp_seq_k ?_; intro K510 hK510
 refine wp_region_lit ?_
 revert aa
 refine qM hR ?_
 refine qA hR rfl (fun _ hS => Yld.nilCheck hS rfl) ?_
 refine qA hR rfl (fun _ hS => Yld.fieldAddr hS rfl 1 Try.underlying106 rfl rfl info102 (by decide)) ?_
 refine qA hR rfl (fun _ hS => Yld.load1 hS rfl Try.underlying102 rfl rdQ) ?_
 refine qM hR ?_
 refine qM hR ?_
 refine qA hR rfl (fun _ hS => ilQ 1 (s) Try.underlying102 info25) ?_
 intro aa hS
 refine sB (BstoreR0 (a) hS hR rfl rfl (by rfl) info25 (by rfl) pkQ (by rfl) (by intro _; rfl) (by omega) (by first | exact Nat.le_of_ble_eq_true rfl | (simp only [List.length_singleton]; omega)) (Nat.le_of_ble_eq_true rfl) (by rfl) ?_); clear hR; intro ww hR
 refine wpList_nil ?_
 refine hK510 _ _ ?_
 refine wp_seq_k ?_; intro K511 hK511
 refine wp_region_lit ?_
 revert aa
 refine qN hR ?_
 intro aa hS
 refine wpList_nil ?_
 refine hK511 _ _ ?_
 refine wp_ret ?_
 repeat first | with_reducible refine thenR ?_ | with_reducible refine blockR ?_ | with_reducible refine scopeR ?_
 refine ret1 (fn := Try.f67) (e := .ret) (.inl rfl) Try.results67 hS hR ⟨_, (.tmp rfl), ?_⟩
 try dsimp only [lay, List.set] at hR
 exact ⟨rfl, Sep.sourceI (t := ss) (b := b) (T := { O := T.O ++ [(a, s)], R := T.R ++ [(a, q)], A := T.A.take }) hX hS4 hl6 (hR.sub exQ)⟩
theorem soOpen_ok {T : So} {S lim b : Nat} {l : List HP} {w : World} {a x : Int} (ha : 0 ≤ a ∧ a ≤ 4294967295) (hR : Sep (sourceA ss b S lim T :: l) w) : CallR Try.prog 67 [.pointer (some ⟨b, 0, none⟩), .int .u32 a, .int .i64 x] w (fun v w' => v = .int .i64 (opnE S lim T a x) ∧ Sep (sourceA ss b S lim (opnN S lim T a x) :: l) w') := by
 obtain ⟨bo, ba, bl, r, c, L, us, hT, hS4, hl6, hR⟩ := hR.sourceE
 have hSF := hT.sf
 replace hR := Sep.sourceI hT hS4 hl6 hR
 by_cases hx : 0 ≤ x ∧ x < S
 ·
  obtain ⟨s, rfl⟩ : ∃ s : Nat, x = s := ⟨x.toNat, by omega⟩
  have hs : s < S := by omega
  cases hq : ofO T.O (s : Int) with
  | some q =>
   rw [(opn_there hx hq).1, (opn_there hx hq).2]
   exact soOpen_there hs hq ha hR
  | none =>
   by_cases hl : lim ≤ (slO T.O a).length
   ·
    rw [(opn_full hx hq hl).1, (opn_full hx hq hl).2]
    exact soOpen_full hs hq hl ha hR
   ·
    rw [(opn_ok hs hq (by omega)).1, (opn_ok hs hq (by omega)).2]
    cases hr : rcR T.R a with
    | some q =>
     rw [addO_old hr]
     exact soOpen_old hs hq (by omega) hr ha hR
    | none =>
     have hro := hSF.oroom hs hq
     have hrl := hSF.rleo
     obtain ⟨q, fs, he⟩ := hSF.hasFree (by omega)
     rw [addO_new hr he]
     exact soOpen_new hs hq (by omega) hr he ha hR
 ·
  rw [(opn_bad hx).1, (opn_bad hx).2]
  exact soOpen_bad hx ha hR
end Go.Proofs.Ytkhdejjompbklaa.Sx
