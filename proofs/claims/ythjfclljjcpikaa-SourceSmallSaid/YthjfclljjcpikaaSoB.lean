/-
 
-/
import Derived.Test.YthjfclljjcpikaaSoA
namespace Go.Proofs.Ythjfclljjcpikaa.Sx
open Go
set_option linter.unusedVariables false
set_option linter.unusedSimpArgs false

theorem info48 : Try.prog.info? 48 = some Try.t48 := by kernel_rfl

set_option maxRecDepth 20000 in
theorem soOpen_bad {T : So} {S lim b : Nat} {l : List HP} {w : World} {a : Int} {x : Int} (hx : ¬ (0 ≤ x ∧ x < S)) (ha : 0 ≤ a ∧ a ≤ 4294967295) (hR : Sep (sourceA ss b S lim T :: l) w) : CallR Try.prog 17 [.pointer (some ⟨b, 0, none⟩), .int .u32 a, .int .i64 x] w (fun v w' => v = .int .i64 2 ∧ Sep (sourceA ss b S lim T :: l) w') := by
 refine enter Try.func17 rfl Try.ntmps17 (Nat.le_of_ble_eq_true rfl) ?_; intro aa hS
 obtain ⟨bo, ba, bl, r, c, L, us, hT, hS4, hl6, hR⟩ := (hR.pk (r := sourceA _ b _ _ _) pkQ).sourceE
 dsimp only at hR
 have hSF := hT.sf
 have hul := hT.len
 have hwl := (hR.pk (r := linksA _ _ _ bl _ _ _) pkQ).linksWL
 refine wp_seq_k ?_; intro K372 hK372
 refine wp_region_lit ?_
 revert aa
 refine qN hR ?_
 intro aa hS
 refine wpList_nil ?_
 refine hK372 _ _ ?_
 refine wp_seq_k ?_; intro K373 hK373
 refine wp_block ?_
 refine wp_seq_k ?_; intro K374 hK374
 refine wp_region_lit ?_
 revert aa
 refine qM hR ?_
 intro aa hS
 refine sB (Bcall hS rfl Try.call31 (sonone_ok (hR.pk (r := blk b _ _) pkQ)) (by decide) ?_); clear hS; intro aa ww vv hS hp
 clear hR
 obtain ⟨rfl, hR⟩ := hp
 revert aa
 refine qN hR ?_
 intro aa hS
 refine wpList_nil ?_
 refine hK374 _ _ ?_
 refine condF hS rfl ?_
 refine wp_seq_k ?_; intro K375 hK375
 refine wp_region_lit ?_
 revert aa
 refine qM hR ?_
 refine qM hR ?_
 intro aa hS
 refine sB (Bcall hS rfl Try.call42 (soright_ok (i := x) (hR.pk (r := blk b _ _) pkQ)) (by decide) ?_); clear hS; intro aa ww vv hS hp
 clear hR
 obtain ⟨rfl, hR⟩ := hp
 revert aa
 refine qB (t := 20) false rfl (by exact decide_eq_false hx) ?_
 refine qA hR rfl (fun _ hS => Yld.not hS rfl) ?_
 refine qN hR ?_
 intro aa hS
 refine wpList_nil ?_
 refine hK375 _ _ ?_
 refine condT hS rfl ?_
 refine wp_seq_k ?_; intro K376 hK376
 refine wp_region_lit ?_
 revert aa
 refine qN hR ?_
 intro aa hS
 refine wpList_nil ?_
 refine hK376 _ _ ?_
 refine wp_ret ?_
 repeat first | with_reducible refine thenR ?_ | with_reducible refine blockR ?_ | with_reducible refine scopeR ?_
 refine ret1 (fn := Try.f17) (e := .ret) (.inl rfl) Try.results17 hS hR ⟨_, (.tmp rfl), ?_⟩
 try dsimp only [lay, List.set] at hR
 exact ⟨rfl, Sep.sourceI (t := ss) (b := b) (T := T) hT hS4 hl6 (hR.sub exQ)⟩
set_option maxRecDepth 20000 in
theorem soOpen_there {T : So} {S lim b : Nat} {l : List HP} {w : World} {a : Int} {s : Nat} (hs : s < S) {q : Int} (hq : ofO T.O (s : Int) = some q) (ha : 0 ≤ a ∧ a ≤ 4294967295) (hR : Sep (sourceA ss b S lim T :: l) w) : CallR Try.prog 17 [.pointer (some ⟨b, 0, none⟩), .int .u32 a, .int .i64 (s : Int)] w (fun v w' => v = .int .i64 310 ∧ Sep (sourceA ss b S lim T :: l) w') := by
 refine enter Try.func17 rfl Try.ntmps17 (Nat.le_of_ble_eq_true rfl) ?_; intro aa hS
 obtain ⟨bo, ba, bl, r, c, L, us, hT, hS4, hl6, hR⟩ := (hR.pk (r := sourceA _ b _ _ _) pkQ).sourceE
 dsimp only at hR
 have hSF := hT.sf
 have hul := hT.len
 have hwl := (hR.pk (r := linksA _ _ _ bl _ _ _) pkQ).linksWL
 obtain ⟨s2, r0, hss, hsS, hsm, hsr, hqS, hrc, hof, hol, hsl, hua⟩ := hT.ofSome hwl hq
 obtain rfl : s = s2 := by omega
 refine wp_seq_k ?_; intro K377 hK377
 refine wp_region_lit ?_
 revert aa
 refine qN hR ?_
 intro aa hS
 refine wpList_nil ?_
 refine hK377 _ _ ?_
 refine wp_seq_k ?_; intro K378 hK378
 refine wp_block ?_
 refine wp_seq_k ?_; intro K379 hK379
 refine wp_region_lit ?_
 revert aa
 refine qM hR ?_
 intro aa hS
 refine sB (Bcall hS rfl Try.call31 (sonone_ok (hR.pk (r := blk b _ _) pkQ)) (by decide) ?_); clear hS; intro aa ww vv hS hp
 clear hR
 obtain ⟨rfl, hR⟩ := hp
 revert aa
 refine qN hR ?_
 intro aa hS
 refine wpList_nil ?_
 refine hK379 _ _ ?_
 refine condF hS rfl ?_
 refine wp_seq_k ?_; intro K380 hK380
 refine wp_region_lit ?_
 revert aa
 refine qM hR ?_
 refine qM hR ?_
 intro aa hS
 refine sB (Bcall hS rfl Try.call42 (soright_ok (i := (s : Int)) (hR.pk (r := blk b _ _) pkQ)) (by decide) ?_); clear hS; intro aa ww vv hS hp
 clear hR
 obtain ⟨rfl, hR⟩ := hp
 revert aa
 refine qB (t := 20) true rfl (by exact decide_eq_true (by omega)) ?_
 refine qA hR rfl (fun _ hS => Yld.not hS rfl) ?_
 refine qN hR ?_
 intro aa hS
 refine wpList_nil ?_
 refine hK380 _ _ ?_
 refine condF hS rfl ?_
 refine wp_skip ?_
 refine hK378 _ _ ?_
 refine wp_seq_k ?_; intro K381 hK381
 refine wp_seq_k ?_; intro K382 hK382
 refine wp_region_lit ?_
 revert aa
 refine qM hR ?_
 refine qA hR rfl (fun _ hS => Yld.nilCheck hS rfl) ?_
 refine qA hR rfl (fun _ hS => Yld.fieldAddr hS rfl 4 Try.underlying51 rfl rfl info49 (by decide)) ?_
 refine qA hR rfl (fun _ hS => Yld.load1 hS rfl Try.underlying49 rfl rdQ) ?_
 refine qM hR ?_
 intro aa hS
 refine sB (Bcall hS rfl Try.call43 (LOf_ok (x := (s : Int)) (hR.pk (r := linksA _ _ _ bl _ _ _) pkQ)) (by decide) ?_); clear hS; intro aa ww vv hS hp
 clear hR
 obtain ⟨rfl, hR⟩ := hp
 rw [hof] at hS
 dsimp only [optV, Option.getD, Option.isSome] at hS
 revert aa
 refine qM hR ?_
 refine qX hR ?_
 refine qX hR ?_
 refine qB (t := 30) true rfl (by rfl) ?_
 refine qN hR ?_
 refine qN hR ?_
 intro aa hS
 refine wpList_nil ?_
 refine hK382 _ _ ?_
 refine wp_seq_k ?_; intro K383 hK383
 refine wp_region_lit ?_
 revert aa
 refine qM hR ?_
 intro aa hS
 refine wpList_nil ?_
 refine hK383 _ _ ?_
 refine condT hS rfl ?_
 refine wp_seq_k ?_; intro K384 hK384
 refine wp_region_lit ?_
 revert aa
 refine qN hR ?_
 intro aa hS
 refine wpList_nil ?_
 refine hK384 _ _ ?_
 refine wp_ret ?_
 repeat first | with_reducible refine thenR ?_ | with_reducible refine blockR ?_ | with_reducible refine scopeR ?_
 refine ret1 (fn := Try.f17) (e := .ret) (.inl rfl) Try.results17 hS hR ⟨_, (.tmp rfl), ?_⟩
 try dsimp only [lay, List.set] at hR
 exact ⟨rfl, Sep.sourceI (t := ss) (b := b) (T := T) hT hS4 hl6 (hR.sub exQ)⟩
set_option maxRecDepth 20000 in
theorem soOpen_full {T : So} {S lim b : Nat} {l : List HP} {w : World} {a : Int} {s : Nat} (hs : s < S) (hn : ofO T.O (s : Int) = none) (hl : lim ≤ (slO T.O a).length) (ha : 0 ≤ a ∧ a ≤ 4294967295) (hR : Sep (sourceA ss b S lim T :: l) w) : CallR Try.prog 17 [.pointer (some ⟨b, 0, none⟩), .int .u32 a, .int .i64 (s : Int)] w (fun v w' => v = .int .i64 4 ∧ Sep (sourceA ss b S lim T :: l) w') := by
 refine enter Try.func17 rfl Try.ntmps17 (Nat.le_of_ble_eq_true rfl) ?_; intro aa hS
 obtain ⟨bo, ba, bl, r, c, L, us, hT, hS4, hl6, hR⟩ := (hR.pk (r := sourceA _ b _ _ _) pkQ).sourceE
 dsimp only at hR
 have hSF := hT.sf
 have hul := hT.len
 have hwl := (hR.pk (r := linksA _ _ _ bl _ _ _) pkQ).linksWL
 refine wp_seq_k ?_; intro K385 hK385
 refine wp_region_lit ?_
 revert aa
 refine qN hR ?_
 intro aa hS
 refine wpList_nil ?_
 refine hK385 _ _ ?_
 refine wp_seq_k ?_; intro K386 hK386
 refine wp_block ?_
 refine wp_seq_k ?_; intro K387 hK387
 refine wp_region_lit ?_
 revert aa
 refine qM hR ?_
 intro aa hS
 refine sB (Bcall hS rfl Try.call31 (sonone_ok (hR.pk (r := blk b _ _) pkQ)) (by decide) ?_); clear hS; intro aa ww vv hS hp
 clear hR
 obtain ⟨rfl, hR⟩ := hp
 revert aa
 refine qN hR ?_
 intro aa hS
 refine wpList_nil ?_
 refine hK387 _ _ ?_
 refine condF hS rfl ?_
 refine wp_seq_k ?_; intro K388 hK388
 refine wp_region_lit ?_
 revert aa
 refine qM hR ?_
 refine qM hR ?_
 intro aa hS
 refine sB (Bcall hS rfl Try.call42 (soright_ok (i := (s : Int)) (hR.pk (r := blk b _ _) pkQ)) (by decide) ?_); clear hS; intro aa ww vv hS hp
 clear hR
 obtain ⟨rfl, hR⟩ := hp
 revert aa
 refine qB (t := 20) true rfl (by exact decide_eq_true (by omega)) ?_
 refine qA hR rfl (fun _ hS => Yld.not hS rfl) ?_
 refine qN hR ?_
 intro aa hS
 refine wpList_nil ?_
 refine hK388 _ _ ?_
 refine condF hS rfl ?_
 refine wp_skip ?_
 refine hK386 _ _ ?_
 refine wp_seq_k ?_; intro K389 hK389
 refine wp_seq_k ?_; intro K390 hK390
 refine wp_region_lit ?_
 revert aa
 refine qM hR ?_
 refine qA hR rfl (fun _ hS => Yld.nilCheck hS rfl) ?_
 refine qA hR rfl (fun _ hS => Yld.fieldAddr hS rfl 4 Try.underlying51 rfl rfl info49 (by decide)) ?_
 refine qA hR rfl (fun _ hS => Yld.load1 hS rfl Try.underlying49 rfl rdQ) ?_
 refine qM hR ?_
 intro aa hS
 refine sB (Bcall hS rfl Try.call43 (LOf_ok (x := (s : Int)) (hR.pk (r := linksA _ _ _ bl _ _ _) pkQ)) (by decide) ?_); clear hS; intro aa ww vv hS hp
 clear hR
 obtain ⟨rfl, hR⟩ := hp
 rw [hT.ofNone hn] at hS
 dsimp only [optV, Option.getD, Option.isSome] at hS
 revert aa
 refine qM hR ?_
 refine qX hR ?_
 refine qX hR ?_
 refine qB (t := 30) false rfl (by rfl) ?_
 refine qN hR ?_
 refine qN hR ?_
 intro aa hS
 refine wpList_nil ?_
 refine hK390 _ _ ?_
 refine wp_seq_k ?_; intro K391 hK391
 refine wp_region_lit ?_
 revert aa
 refine qM hR ?_
 intro aa hS
 refine wpList_nil ?_
 refine hK391 _ _ ?_
 refine condF hS rfl ?_
 refine wp_skip ?_
 refine hK389 _ _ ?_
 refine wp_seq_k ?_; intro K392 hK392
 refine wp_seq_k ?_; intro K393 hK393
 refine drawn (by kernel_rfl) hR Ex.refl ?_; clear hR; intro ww hR hR0
 revert aa
 refine eA 0 rfl (by kernel_rfl) (fun _ _ _ h => h) hR0 rfl (fun _ hS => Yld.move hS rfl) ?_
 refine eA 1 rfl (by kernel_rfl) (fun _ _ _ h => h) hR0 rfl (fun _ hS => Yld.move hS rfl) ?_
 refine eA 3 rfl (by kernel_rfl) (fun _ _ _ h => h) hR0 rfl (fun _ hS => Yld.move hS rfl) ?_
 refine eA 4 rfl (by kernel_rfl) (fun _ _ _ h => h) hR0 rfl (fun _ hS => Yld.nilCheck hS rfl) ?_
 refine eA 5 rfl (by kernel_rfl) (fun _ _ _ h => h) hR0 rfl (fun _ hS => Yld.fieldAddr hS rfl 0 Try.underlying51 rfl rfl info3 (by decide)) ?_
 refine eA 6 rfl (by kernel_rfl) (fun _ _ _ h => h) hR0 rfl (fun _ hS => Yld.load1 hS rfl Try.underlying3 rfl rdQ) ?_
 intro aa hS
 refine dOne (i := 2) (by kernel_rfl) ?_
 refine dop rfl (Bcall hS rfl Try.call14 (soCountO_ok hT ha (((hR.pk (r := linksA _ _ _ bl _ _ _) pkQ).pk (r := trieA _ _ _ bo _ _) pkQ).pk (r := blk b _ _) pkQ)) (by decide) ?_); clear hS; intro aa ww vv hS hp
 clear hR hR0
 obtain ⟨rfl, hR⟩ := hp
 refine dnext (hR.sub exQ) ?_; intro hR0
 revert aa
 refine eA 7 rfl (by kernel_rfl) (fun _ _ _ h => h) hR0 rfl (fun _ hS => Yld.geq hS rfl rfl) ?_
 refine qB (t := 39) true rfl (by exact decide_eq_true (by omega)) ?_
 intro aa hS
 refine wpAnyH_done (by kernel_rfl) ?_ _; clear hR0
 refine hK393 _ _ ?_
 refine condT hS rfl ?_
 refine wp_seq_k ?_; intro K394 hK394
 refine wp_region_lit ?_
 revert aa
 refine qN hR ?_
 intro aa hS
 refine wpList_nil ?_
 refine hK394 _ _ ?_
 refine wp_ret ?_
 repeat first | with_reducible refine thenR ?_ | with_reducible refine blockR ?_ | with_reducible refine scopeR ?_
 refine ret1 (fn := Try.f17) (e := .ret) (.inl rfl) Try.results17 hS hR ⟨_, (.tmp rfl), ?_⟩
 try dsimp only [lay, List.set] at hR
 exact ⟨rfl, Sep.sourceI (t := ss) (b := b) (T := T) hT hS4 hl6 (hR.sub exQ)⟩
set_option maxHeartbeats 1000000 in
set_option maxRecDepth 20000 in
theorem soOpen_old {T : So} {S lim b : Nat} {l : List HP} {w : World} {a : Int} {s : Nat} (hs : s < S) (hn : ofO T.O (s : Int) = none) (hl : (slO T.O a).length < lim) {q : Nat} (hr : rcR T.R a = some q) (ha : 0 ≤ a ∧ a ≤ 4294967295) (hR : Sep (sourceA ss b S lim T :: l) w) : CallR Try.prog 17 [.pointer (some ⟨b, 0, none⟩), .int .u32 a, .int .i64 (s : Int)] w (fun v w' => v = .int .i64 0 ∧ Sep (sourceA ss b S lim { O := T.O ++ [(a, s)], R := T.R, A := T.A } :: l) w') := by
 refine enter Try.func17 rfl Try.ntmps17 (Nat.le_of_ble_eq_true rfl) ?_; intro aa hS
 obtain ⟨bo, ba, bl, r, c, L, us, hT, hS4, hl6, hR⟩ := (hR.pk (r := sourceA _ b _ _ _) pkQ).sourceE
 dsimp only at hR
 have hSF := hT.sf
 have hul := hT.len
 have hwl := (hR.pk (r := linksA _ _ _ bl _ _ _) pkQ).linksWL
 have hX := hT.addOld ha hs hn hl hr
 rw [addO_old hr] at hX
 refine wp_seq_k ?_; intro K395 hK395
 refine wp_region_lit ?_
 revert aa
 refine qN hR ?_
 intro aa hS
 refine wpList_nil ?_
 refine hK395 _ _ ?_
 refine wp_seq_k ?_; intro K396 hK396
 refine wp_block ?_
 refine wp_seq_k ?_; intro K397 hK397
 refine wp_region_lit ?_
 revert aa
 refine qM hR ?_
 intro aa hS
 refine sB (Bcall hS rfl Try.call31 (sonone_ok (hR.pk (r := blk b _ _) pkQ)) (by decide) ?_); clear hS; intro aa ww vv hS hp
 clear hR
 obtain ⟨rfl, hR⟩ := hp
 revert aa
 refine qN hR ?_
 intro aa hS
 refine wpList_nil ?_
 refine hK397 _ _ ?_
 refine condF hS rfl ?_
 refine wp_seq_k ?_; intro K398 hK398
 refine wp_region_lit ?_
 revert aa
 refine qM hR ?_
 refine qM hR ?_
 intro aa hS
 refine sB (Bcall hS rfl Try.call42 (soright_ok (i := (s : Int)) (hR.pk (r := blk b _ _) pkQ)) (by decide) ?_); clear hS; intro aa ww vv hS hp
 clear hR
 obtain ⟨rfl, hR⟩ := hp
 revert aa
 refine qB (t := 20) true rfl (by exact decide_eq_true (by omega)) ?_
 refine qA hR rfl (fun _ hS => Yld.not hS rfl) ?_
 refine qN hR ?_
 intro aa hS
 refine wpList_nil ?_
 refine hK398 _ _ ?_
 refine condF hS rfl ?_
 refine wp_skip ?_
 refine hK396 _ _ ?_
 refine wp_seq_k ?_; intro K399 hK399
 refine wp_seq_k ?_; intro K400 hK400
 refine wp_region_lit ?_
 revert aa
 refine qM hR ?_
 refine qA hR rfl (fun _ hS => Yld.nilCheck hS rfl) ?_
 refine qA hR rfl (fun _ hS => Yld.fieldAddr hS rfl 4 Try.underlying51 rfl rfl info49 (by decide)) ?_
 refine qA hR rfl (fun _ hS => Yld.load1 hS rfl Try.underlying49 rfl rdQ) ?_
 refine qM hR ?_
 intro aa hS
 refine sB (Bcall hS rfl Try.call43 (LOf_ok (x := (s : Int)) (hR.pk (r := linksA _ _ _ bl _ _ _) pkQ)) (by decide) ?_); clear hS; intro aa ww vv hS hp
 clear hR
 obtain ⟨rfl, hR⟩ := hp
 rw [hT.ofNone hn] at hS
 dsimp only [optV, Option.getD, Option.isSome] at hS
 revert aa
 refine qM hR ?_
 refine qX hR ?_
 refine qX hR ?_
 refine qB (t := 30) false rfl (by rfl) ?_
 refine qN hR ?_
 refine qN hR ?_
 intro aa hS
 refine wpList_nil ?_
 refine hK400 _ _ ?_
 refine wp_seq_k ?_; intro K401 hK401
 refine wp_region_lit ?_
 revert aa
 refine qM hR ?_
 intro aa hS
 refine wpList_nil ?_
 refine hK401 _ _ ?_
 refine condF hS rfl ?_
 refine wp_skip ?_
 refine hK399 _ _ ?_
 refine wp_seq_k ?_; intro K402 hK402
 refine wp_seq_k ?_; intro K403 hK403
 refine drawn (by kernel_rfl) hR Ex.refl ?_; clear hR; intro ww hR hR0
 revert aa
 refine eA 0 rfl (by kernel_rfl) (fun _ _ _ h => h) hR0 rfl (fun _ hS => Yld.move hS rfl) ?_
 refine eA 1 rfl (by kernel_rfl) (fun _ _ _ h => h) hR0 rfl (fun _ hS => Yld.move hS rfl) ?_
 refine eA 3 rfl (by kernel_rfl) (fun _ _ _ h => h) hR0 rfl (fun _ hS => Yld.move hS rfl) ?_
 refine eA 4 rfl (by kernel_rfl) (fun _ _ _ h => h) hR0 rfl (fun _ hS => Yld.nilCheck hS rfl) ?_
 refine eA 5 rfl (by kernel_rfl) (fun _ _ _ h => h) hR0 rfl (fun _ hS => Yld.fieldAddr hS rfl 0 Try.underlying51 rfl rfl info3 (by decide)) ?_
 refine eA 6 rfl (by kernel_rfl) (fun _ _ _ h => h) hR0 rfl (fun _ hS => Yld.load1 hS rfl Try.underlying3 rfl rdQ) ?_
 intro aa hS
 refine dOne (i := 2) (by kernel_rfl) ?_
 refine dop rfl (Bcall hS rfl Try.call14 (soCountO_ok hT ha (((hR.pk (r := linksA _ _ _ bl _ _ _) pkQ).pk (r := trieA _ _ _ bo _ _) pkQ).pk (r := blk b _ _) pkQ)) (by decide) ?_); clear hS; intro aa ww vv hS hp
 clear hR hR0
 obtain ⟨rfl, hR⟩ := hp
 refine dnext (hR.sub exQ) ?_; intro hR0
 revert aa
 refine eA 7 rfl (by kernel_rfl) (fun _ _ _ h => h) hR0 rfl (fun _ hS => Yld.geq hS rfl rfl) ?_
 refine qB (t := 39) false rfl (by exact decide_eq_false (by omega)) ?_
 intro aa hS
 refine wpAnyH_done (by kernel_rfl) ?_ _; clear hR0
 refine hK403 _ _ ?_
 refine condF hS rfl ?_
 refine wp_skip ?_
 refine hK402 _ _ ?_
 refine wp_seq_k ?_; intro K404 hK404
 refine wp_region_lit ?_
 revert aa
 refine qM hR ?_
 refine qA hR rfl (fun _ hS => Yld.makeFunc hS rfl rfl) ?_
 refine qN hR ?_
 intro aa hS
 refine wpList_nil ?_
 refine hK404 _ _ ?_
 refine wp_seq_k ?_; intro K405 hK405
 refine drawn (by kernel_rfl) hR Ex.refl ?_; clear hR; intro ww hR hR0
 revert aa
 refine eA 0 rfl (by kernel_rfl) (fun _ _ _ h => h) hR0 rfl (fun _ hS => Yld.move hS rfl) ?_
 refine eA 1 rfl (by kernel_rfl) (fun _ _ _ h => h) hR0 rfl (fun _ hS => Yld.nilCheck hS rfl) ?_
 refine eA 2 rfl (by kernel_rfl) (fun _ _ _ h => h) hR0 rfl (fun _ hS => Yld.fieldAddr hS rfl 2 Try.underlying51 rfl rfl info47 (by decide)) ?_
 refine eA 3 rfl (by kernel_rfl) (fun _ _ _ h => h) hR0 rfl (fun _ hS => Yld.load1 hS rfl Try.underlying47 rfl rdQ) ?_
 refine eA 4 rfl (by kernel_rfl) (fun _ _ _ h => h) hR0 rfl (fun _ hS => Yld.move hS rfl) ?_
 intro aa hS
 refine dOne (i := 5) (by kernel_rfl) ?_
 refine dop rfl (BcallV (first := [.int .u32 a]) (caps := []) hS rfl rfl Try.call33 (sokey_ok hR) (by decide) ?_); clear hS; intro aa ww vv hS hp
 clear hR hR0
 obtain ⟨rfl, hR⟩ := hp
 refine dnext (hR.sub exQ) ?_; intro hR0
 refine dOne (i := 6) (by kernel_rfl) ?_
 refine dop rfl (Bcall hS rfl Try.call32 (Get_ok (k := kA a) (hR.pk (r := trieA _ _ _ bo _ _) pkQ) (kA_wf ha)) (by decide) ?_); clear hS; intro aa ww vv hS hp
 clear hR hR0
 obtain ⟨rfl, hR⟩ := hp
 rw [ix_get, hr] at hS
 dsimp only [Option.map, Option.getD, Option.isSome] at hS
 refine dnext (hR.sub exQ) ?_; intro hR0
 revert aa
 refine eA 7 rfl (by kernel_rfl) (fun _ _ _ h => h) hR0 rfl (fun _ hS => Yld.move hS rfl) ?_
 refine eA 8 rfl (by kernel_rfl) (fun _ _ _ h => h) hR0 rfl (fun _ hS => Yld.extract hS rfl rfl) ?_
 refine eA 9 rfl (by kernel_rfl) (fun _ _ _ h => h) hR0 rfl (fun _ hS => Yld.extract hS rfl rfl) ?_
 refine qB (t := 51) true rfl (by rfl) ?_
 refine eA 10 rfl (by kernel_rfl) (fun _ _ _ h => h) hR0 rfl (fun _ hS => Yld.assign hS rfl) ?_
 refine eA 11 rfl (by kernel_rfl) (fun _ _ _ h => h) hR0 rfl (fun _ hS => Yld.assign hS rfl) ?_
 intro aa hS
 refine wpAnyH_done (by kernel_rfl) ?_ _; clear hR0
 refine hK405 _ _ ?_
 refine wp_seq_k ?_; intro K406 hK406
 refine wp_seq_k ?_; intro K407 hK407
 refine wp_region_lit ?_
 revert aa
 refine qM hR ?_
 refine qA hR rfl (fun _ hS => Yld.not hS rfl) ?_
 intro aa hS
 refine wpList_nil ?_
 refine hK407 _ _ ?_
 refine condF hS rfl ?_
 refine wp_skip ?_
 refine hK406 _ _ ?_
 refine wp_seq_k ?_; intro K408 hK408
 refine wp_region_lit ?_
 revert aa
 refine qM hR ?_
 refine qA hR rfl (fun _ hS => Yld.nilCheck hS rfl) ?_
 refine qA hR rfl (fun _ hS => Yld.fieldAddr hS rfl 4 Try.underlying51 rfl rfl info49 (by decide)) ?_
 refine qA hR rfl (fun _ hS => Yld.load1 hS rfl Try.underlying49 rfl rdQ) ?_
 refine qM hR ?_
 refine qM hR ?_
 intro aa hS
 refine sB (Bcall hS rfl Try.call46 (LBack_ok (x := (q : Int)) (y := (s : Int)) (hR.pk (r := linksA _ _ _ bl _ _ _) pkQ)) (by decide) ?_); clear hS; intro aa ww vv hS hp
 clear hR
 obtain ⟨rfl, hR⟩ := hp
 refine wpList_nil ?_
 refine hK408 _ _ ?_
 refine wp_seq_k ?_; intro K409 hK409
 refine wp_region_lit ?_
 revert aa
 refine qM hR ?_
 refine qA hR rfl (fun _ hS => Yld.nilCheck hS rfl) ?_
 refine qA hR rfl (fun _ hS => Yld.fieldAddr hS rfl 1 Try.underlying51 rfl rfl info46 (by decide)) ?_
 refine qA hR rfl (fun _ hS => Yld.load1 hS rfl Try.underlying46 rfl rdQ) ?_
 refine qM hR ?_
 refine qM hR ?_
 refine qA hR rfl (fun _ hS => ilQ 1 (s) Try.underlying46 info28) ?_
 intro aa hS
 refine sB (BstoreR0 (a) hS hR rfl rfl (by rfl) info28 (by rfl) pkQ (by rfl) (by intro _; rfl) (by omega) (by first | exact Nat.le_of_ble_eq_true rfl | (simp only [List.length_singleton]; omega)) (Nat.le_of_ble_eq_true rfl) (by rfl) ?_); clear hR; intro ww hR
 refine wpList_nil ?_
 refine hK409 _ _ ?_
 refine wp_seq_k ?_; intro K410 hK410
 refine wp_region_lit ?_
 revert aa
 refine qN hR ?_
 intro aa hS
 refine wpList_nil ?_
 refine hK410 _ _ ?_
 refine wp_ret ?_
 repeat first | with_reducible refine thenR ?_ | with_reducible refine blockR ?_ | with_reducible refine scopeR ?_
 refine ret1 (fn := Try.f17) (e := .ret) (.inl rfl) Try.results17 hS hR ⟨_, (.tmp rfl), ?_⟩
 try dsimp only [lay, List.set] at hR
 exact ⟨rfl, Sep.sourceI (t := ss) (b := b) (T := { O := T.O ++ [(a, s)], R := T.R, A := T.A }) hX hS4 hl6 (hR.sub exQ)⟩
set_option maxHeartbeats 1000000 in
set_option maxRecDepth 20000 in
theorem soOpen_new {T : So} {S lim b : Nat} {l : List HP} {w : World} {a : Int} {s : Nat} (hs : s < S) (hn : ofO T.O (s : Int) = none) (hl : (slO T.O a).length < lim) {q : Nat} {fs : List Nat} (hr : rcR T.R a = none) (he : T.A.free = q :: fs) (ha : 0 ≤ a ∧ a ≤ 4294967295) (hR : Sep (sourceA ss b S lim T :: l) w) : CallR Try.prog 17 [.pointer (some ⟨b, 0, none⟩), .int .u32 a, .int .i64 (s : Int)] w (fun v w' => v = .int .i64 0 ∧ Sep (sourceA ss b S lim { O := T.O ++ [(a, s)], R := T.R ++ [(a, q)], A := T.A.take } :: l) w') := by
 refine enter Try.func17 rfl Try.ntmps17 (Nat.le_of_ble_eq_true rfl) ?_; intro aa hS
 obtain ⟨bo, ba, bl, r, c, L, us, hT, hS4, hl6, hR⟩ := (hR.pk (r := sourceA _ b _ _ _) pkQ).sourceE
 dsimp only at hR
 have hSF := hT.sf
 have hul := hT.len
 have hwl := (hR.pk (r := linksA _ _ _ bl _ _ _) pkQ).linksWL
 have hX := hT.addNew ha hs hn hl hr he
 rw [addO_new hr he] at hX
 have hro := hSF.oroom hs hn
 have hrl := hSF.rleo
 refine wp_seq_k ?_; intro K411 hK411
 refine wp_region_lit ?_
 revert aa
 refine qN hR ?_
 intro aa hS
 refine wpList_nil ?_
 refine hK411 _ _ ?_
 refine wp_seq_k ?_; intro K412 hK412
 refine wp_block ?_
 refine wp_seq_k ?_; intro K413 hK413
 refine wp_region_lit ?_
 revert aa
 refine qM hR ?_
 intro aa hS
 refine sB (Bcall hS rfl Try.call31 (sonone_ok (hR.pk (r := blk b _ _) pkQ)) (by decide) ?_); clear hS; intro aa ww vv hS hp
 clear hR
 obtain ⟨rfl, hR⟩ := hp
 revert aa
 refine qN hR ?_
 intro aa hS
 refine wpList_nil ?_
 refine hK413 _ _ ?_
 refine condF hS rfl ?_
 refine wp_seq_k ?_; intro K414 hK414
 refine wp_region_lit ?_
 revert aa
 refine qM hR ?_
 refine qM hR ?_
 intro aa hS
 refine sB (Bcall hS rfl Try.call42 (soright_ok (i := (s : Int)) (hR.pk (r := blk b _ _) pkQ)) (by decide) ?_); clear hS; intro aa ww vv hS hp
 clear hR
 obtain ⟨rfl, hR⟩ := hp
 revert aa
 refine qB (t := 20) true rfl (by exact decide_eq_true (by omega)) ?_
 refine qA hR rfl (fun _ hS => Yld.not hS rfl) ?_
 refine qN hR ?_
 intro aa hS
 refine wpList_nil ?_
 refine hK414 _ _ ?_
 refine condF hS rfl ?_
 refine wp_skip ?_
 refine hK412 _ _ ?_
 refine wp_seq_k ?_; intro K415 hK415
 refine wp_seq_k ?_; intro K416 hK416
 refine wp_region_lit ?_
 revert aa
 refine qM hR ?_
 refine qA hR rfl (fun _ hS => Yld.nilCheck hS rfl) ?_
 refine qA hR rfl (fun _ hS => Yld.fieldAddr hS rfl 4 Try.underlying51 rfl rfl info49 (by decide)) ?_
 intro aa hS
 refine sA hS hR (Yld.load1 hS rfl Try.underlying49 rfl rdQ) (by decide) ?_; clear hS; intro aa hS
 revert aa
 refine qM hR ?_
 intro aa hS
 refine sB (Bcall hS rfl Try.call43 (LOf_ok (x := (s : Int)) (hR.pk (r := linksA _ _ _ bl _ _ _) pkQ)) (by decide) ?_); clear hS; intro aa ww vv hS hp
 clear hR
 obtain ⟨rfl, hR⟩ := hp
 rw [hT.ofNone hn] at hS
 dsimp only [optV, Option.getD, Option.isSome] at hS
 revert aa
 refine qM hR ?_
 refine qX hR ?_
 refine qX hR ?_
 refine qB (t := 30) false rfl (by rfl) ?_
 refine qN hR ?_
 refine qN hR ?_
 intro aa hS
 refine wpList_nil ?_
 refine hK416 _ _ ?_
 refine wp_seq_k ?_; intro K417 hK417
 refine wp_region_lit ?_
 revert aa
 refine qM hR ?_
 intro aa hS
 refine wpList_nil ?_
 refine hK417 _ _ ?_
 refine condF hS rfl ?_
 refine wp_skip ?_
 refine hK415 _ _ ?_
 refine wp_seq_k ?_; intro K418 hK418
 refine wp_seq_k ?_; intro K419 hK419
 refine drawn (by kernel_rfl) hR Ex.refl ?_; clear hR; intro ww hR hR0
 revert aa
 refine eA 0 rfl (by kernel_rfl) (fun _ _ _ h => h) hR0 rfl (fun _ hS => Yld.move hS rfl) ?_
 refine eA 1 rfl (by kernel_rfl) (fun _ _ _ h => h) hR0 rfl (fun _ hS => Yld.move hS rfl) ?_
 refine eA 3 rfl (by kernel_rfl) (fun _ _ _ h => h) hR0 rfl (fun _ hS => Yld.move hS rfl) ?_
 refine eA 4 rfl (by kernel_rfl) (fun _ _ _ h => h) hR0 rfl (fun _ hS => Yld.nilCheck hS rfl) ?_
 refine eA 5 rfl (by kernel_rfl) (fun _ _ _ h => h) hR0 rfl (fun _ hS => Yld.fieldAddr hS rfl 0 Try.underlying51 rfl rfl info3 (by decide)) ?_
 refine eA 6 rfl (by kernel_rfl) (fun _ _ _ h => h) hR0 rfl (fun _ hS => Yld.load1 hS rfl Try.underlying3 rfl rdQ) ?_
 intro aa hS
 refine dOne (i := 2) (by kernel_rfl) ?_
 refine dop rfl (Bcall hS rfl Try.call14 (soCountO_ok hT ha (((hR.pk (r := linksA _ _ _ bl _ _ _) pkQ).pk (r := trieA _ _ _ bo _ _) pkQ).pk (r := blk b _ _) pkQ)) (by decide) ?_); clear hS; intro aa ww vv hS hp
 clear hR hR0
 obtain ⟨rfl, hR⟩ := hp
 refine dnext (hR.sub exQ) ?_; intro hR0
 revert aa
 refine eA 7 rfl (by kernel_rfl) (fun _ _ _ h => h) hR0 rfl (fun _ hS => Yld.geq hS rfl rfl) ?_
 refine qB (t := 39) false rfl (by exact decide_eq_false (by omega)) ?_
 intro aa hS
 refine wpAnyH_done (by kernel_rfl) ?_ _; clear hR0
 refine hK419 _ _ ?_
 refine condF hS rfl ?_
 refine wp_skip ?_
 refine hK418 _ _ ?_
 refine wp_seq_k ?_; intro K420 hK420
 refine wp_region_lit ?_
 revert aa
 refine qM hR ?_
 refine qA hR rfl (fun _ hS => Yld.makeFunc hS rfl rfl) ?_
 refine qN hR ?_
 intro aa hS
 refine wpList_nil ?_
 refine hK420 _ _ ?_
 refine wp_seq_k ?_; intro K421 hK421
 refine drawn (by kernel_rfl) hR Ex.refl ?_; clear hR; intro ww hR hR0
 revert aa
 refine eA 0 rfl (by kernel_rfl) (fun _ _ _ h => h) hR0 rfl (fun _ hS => Yld.move hS rfl) ?_
 refine eA 1 rfl (by kernel_rfl) (fun _ _ _ h => h) hR0 rfl (fun _ hS => Yld.nilCheck hS rfl) ?_
 refine eA 2 rfl (by kernel_rfl) (fun _ _ _ h => h) hR0 rfl (fun _ hS => Yld.fieldAddr hS rfl 2 Try.underlying51 rfl rfl info47 (by decide)) ?_
 refine eA 3 rfl (by kernel_rfl) (fun _ _ _ h => h) hR0 rfl (fun _ hS => Yld.load1 hS rfl Try.underlying47 rfl rdQ) ?_
 refine eA 4 rfl (by kernel_rfl) (fun _ _ _ h => h) hR0 rfl (fun _ hS => Yld.move hS rfl) ?_
 intro aa hS
 refine dOne (i := 5) (by kernel_rfl) ?_
 refine dop rfl (BcallV (first := [.int .u32 a]) (caps := []) hS rfl rfl Try.call33 (sokey_ok hR) (by decide) ?_); clear hS; intro aa ww vv hS hp
 clear hR hR0
 obtain ⟨rfl, hR⟩ := hp
 refine dnext (hR.sub exQ) ?_; intro hR0
 refine dOne (i := 6) (by kernel_rfl) ?_
 refine dop rfl (Bcall hS rfl Try.call32 (Get_ok (k := kA a) (hR.pk (r := trieA _ _ _ bo _ _) pkQ) (kA_wf ha)) (by decide) ?_); clear hS; intro aa ww vv hS hp
 clear hR hR0
 obtain ⟨rfl, hR⟩ := hp
 rw [ix_get, hr] at hS
 dsimp only [Option.map, Option.getD, Option.isSome] at hS
 refine dnext (hR.sub exQ) ?_; intro hR0
 revert aa
 refine eA 7 rfl (by kernel_rfl) (fun _ _ _ h => h) hR0 rfl (fun _ hS => Yld.move hS rfl) ?_
 refine eA 8 rfl (by kernel_rfl) (fun _ _ _ h => h) hR0 rfl (fun _ hS => Yld.extract hS rfl rfl) ?_
 refine eA 9 rfl (by kernel_rfl) (fun _ _ _ h => h) hR0 rfl (fun _ hS => Yld.extract hS rfl rfl) ?_
 refine qB (t := 51) false rfl (by rfl) ?_
 refine eA 10 rfl (by kernel_rfl) (fun _ _ _ h => h) hR0 rfl (fun _ hS => Yld.assign hS rfl) ?_
 refine eA 11 rfl (by kernel_rfl) (fun _ _ _ h => h) hR0 rfl (fun _ hS => Yld.assign hS rfl) ?_
 intro aa hS
 refine wpAnyH_done (by kernel_rfl) ?_ _; clear hR0
 refine hK421 _ _ ?_
 refine wp_seq_k ?_; intro K422 hK422
 refine wp_seq_k ?_; intro K423 hK423
 refine wp_region_lit ?_
 revert aa
 refine qM hR ?_
 refine qA hR rfl (fun _ hS => Yld.not hS rfl) ?_
 intro aa hS
 refine wpList_nil ?_
 refine hK423 _ _ ?_
 refine condT hS rfl ?_
 refine wp_seq_k ?_; intro K424 hK424
 refine wp_region_lit ?_
 revert aa
 refine qM hR ?_
 refine qA hR rfl (fun _ hS => Yld.nilCheck hS rfl) ?_
 refine qA hR rfl (fun _ hS => Yld.fieldAddr hS rfl 3 Try.underlying51 rfl rfl info48 (by decide)) ?_
 refine qA hR rfl (fun _ hS => Yld.load1 hS rfl Try.underlying48 rfl rdQ) ?_
 intro aa hS
 refine sB (Bcall hS rfl Try.call44 (Take_okA (hR.pk (r := arena _ _ ba _) pkQ)) (by decide) ?_); clear hS; intro aa ww vv hS hp
 clear hR
 obtain ⟨rfl, hR⟩ := hp
 rw [Ar.top_eq he] at hS
 revert aa
 refine qM hR ?_
 refine qX hR ?_
 refine qX hR ?_
 intro aa hS
 refine sB (Balloc hS hR info95 (by rfl) (by rfl) (by decide) ?_); clear hS hR; intro aa ww bb12 hS hR
 refine sB (Bstore hS hR rfl rfl (by rfl) info95 (by rfl) pkQ (by rfl) (Nat.le_of_ble_eq_true rfl) ?_); clear hR; intro ww hR
 revert aa
 refine qN hR ?_
 intro aa hS
 refine wpList_nil ?_
 refine hK424 _ _ ?_
 refine wp_seq_k ?_; intro K425 hK425
 refine wp_region_lit ?_
 revert aa
 refine qA hR rfl (fun _ hS => Yld.fieldAddr hS rfl 0 Try.underlying95 rfl rfl info3 (by decide)) ?_
 refine qA hR rfl (fun _ hS => Yld.load1 hS rfl Try.underlying3 rfl rdQ) ?_
 refine qN hR ?_
 intro aa hS
 refine wpList_nil ?_
 refine hK425 _ _ ?_
 refine drawn (by kernel_rfl) hR (Ex.of_pk (r := trieA _ _ _ bo _ _) pkQ) ?_; clear hR; intro ww hR hR0
 revert aa
 refine eA 0 rfl (by kernel_rfl) (fun _ _ _ h => h) hR0 rfl (fun _ hS => Yld.move hS rfl) ?_
 refine eA 1 rfl (by kernel_rfl) (fun _ _ _ h => h) hR0 rfl (fun _ hS => Yld.nilCheck hS rfl) ?_
 refine eA 2 rfl (by kernel_rfl) (fun _ _ _ h => h) hR0 rfl (fun _ hS => Yld.fieldAddr hS rfl 2 Try.underlying51 rfl rfl info47 (by decide)) ?_
 refine eA 3 rfl (by kernel_rfl) (fun _ _ _ h => h) hR0 rfl (fun _ hS => Yld.load1 hS rfl Try.underlying47 rfl rdQ) ?_
 refine eA 4 rfl (by kernel_rfl) (fun _ _ _ h => h) hR0 rfl (fun _ hS => Yld.move hS rfl) ?_
 refine eA 6 rfl (by kernel_rfl) (fun _ _ _ h => h) hR0 rfl (fun _ hS => Yld.move hS rfl) ?_
 intro aa hS
 refine dOne (i := 5) (by kernel_rfl) ?_
 refine dop rfl (BcallV (first := [.int .u32 a]) (caps := []) hS rfl rfl Try.call33 (sokey_ok hR) (by decide) ?_); clear hS; intro aa ww vv hS hp
 clear hR hR0
 obtain ⟨rfl, hR⟩ := hp
 refine dnext (hR.sub exQ) ?_; intro hR0
 refine dOne (i := 7) (by kernel_rfl) ?_
 refine dop rfl (Bcall hS rfl Try.call45 (Put_ok (k := kA a) (vx := (q : Int)) (hR.pk (r := trieA _ _ _ bo _ _) pkQ) (kA_wf ha)) (by decide) ?_); clear hS; intro aa ww vv hS hp
 clear hR hR0
 obtain ⟨rfl, hR⟩ := hp
 rw [ix_put hr (by omega)] at hR
 refine dnext (hR.sub exQ) ?_; intro hR0
 refine wpAnyH_done (by kernel_rfl) ?_ _; clear hR0
 refine hK422 _ _ ?_
 refine wp_seq_k ?_; intro K426 hK426
 refine wp_region_lit ?_
 revert aa
 refine qM hR ?_
 refine qA hR rfl (fun _ hS => Yld.nilCheck hS rfl) ?_
 refine qA hR rfl (fun _ hS => Yld.fieldAddr hS rfl 4 Try.underlying51 rfl rfl info49 (by decide)) ?_
 refine qA hR rfl (fun _ hS => Yld.load1 hS rfl Try.underlying49 rfl rdQ) ?_
 refine qM hR ?_
 refine qM hR ?_
 intro aa hS
 refine sB (Bcall hS rfl Try.call46 (LBack_ok (x := (q : Int)) (y := (s : Int)) (hR.pk (r := linksA _ _ _ bl _ _ _) pkQ)) (by decide) ?_); clear hS; intro aa ww vv hS hp
 clear hR
 obtain ⟨rfl, hR⟩ := hp
 refine wpList_nil ?_
 refine hK426 _ _ ?_
 refine wp_seq_k ?_; intro K427 hK427
 refine wp_region_lit ?_
 revert aa
 refine qM hR ?_
 refine qA hR rfl (fun _ hS => Yld.nilCheck hS rfl) ?_
 refine qA hR rfl (fun _ hS => Yld.fieldAddr hS rfl 1 Try.underlying51 rfl rfl info46 (by decide)) ?_
 refine qA hR rfl (fun _ hS => Yld.load1 hS rfl Try.underlying46 rfl rdQ) ?_
 refine qM hR ?_
 refine qM hR ?_
 refine qA hR rfl (fun _ hS => ilQ 1 (s) Try.underlying46 info28) ?_
 intro aa hS
 refine sB (BstoreR0 (a) hS hR rfl rfl (by rfl) info28 (by rfl) pkQ (by rfl) (by intro _; rfl) (by omega) (by first | exact Nat.le_of_ble_eq_true rfl | (simp only [List.length_singleton]; omega)) (Nat.le_of_ble_eq_true rfl) (by rfl) ?_); clear hR; intro ww hR
 refine wpList_nil ?_
 refine hK427 _ _ ?_
 refine wp_seq_k ?_; intro K428 hK428
 refine wp_region_lit ?_
 revert aa
 refine qN hR ?_
 intro aa hS
 refine wpList_nil ?_
 refine hK428 _ _ ?_
 refine wp_ret ?_
 repeat first | with_reducible refine thenR ?_ | with_reducible refine blockR ?_ | with_reducible refine scopeR ?_
 refine ret1 (fn := Try.f17) (e := .ret) (.inl rfl) Try.results17 hS hR ⟨_, (.tmp rfl), ?_⟩
 try dsimp only [lay, List.set] at hR
 exact ⟨rfl, Sep.sourceI (t := ss) (b := b) (T := { O := T.O ++ [(a, s)], R := T.R ++ [(a, q)], A := T.A.take }) hX hS4 hl6 (hR.sub exQ)⟩
theorem soOpen_ok {T : So} {S lim b : Nat} {l : List HP} {w : World} {a x : Int} (ha : 0 ≤ a ∧ a ≤ 4294967295) (hR : Sep (sourceA ss b S lim T :: l) w) : CallR Try.prog 17 [.pointer (some ⟨b, 0, none⟩), .int .u32 a, .int .i64 x] w (fun v w' => v = .int .i64 (opnE S lim T a x) ∧ Sep (sourceA ss b S lim (opnN S lim T a x) :: l) w') := by
 obtain ⟨bo, ba, bl, r, c, L, us, hT, hS4, hl6, hR⟩ := hR.sourceE
 have hSF := hT.sf
 replace hR := Sep.sourceI hT hS4 hl6 hR
 by_cases hx : 0 ≤ x ∧ x < S
 ·
  obtain ⟨s, rfl⟩ : ∃ s : Nat, x = s := ⟨x.toNat, by omega⟩
  have hs : s < S := by omega
  cases hq : ofO T.O (s : Int) with
  | some q =>
   rw [(opn_there hx hq).1, (opn_there hx hq).2]
   exact soOpen_there hs hq ha hR
  | none =>
   by_cases hl : lim ≤ (slO T.O a).length
   ·
    rw [(opn_full hx hq hl).1, (opn_full hx hq hl).2]
    exact soOpen_full hs hq hl ha hR
   ·
    rw [(opn_ok hs hq (by omega)).1, (opn_ok hs hq (by omega)).2]
    cases hr : rcR T.R a with
    | some q =>
     rw [addO_old hr]
     exact soOpen_old hs hq (by omega) hr ha hR
    | none =>
     have hro := hSF.oroom hs hq
     have hrl := hSF.rleo
     obtain ⟨q, fs, he⟩ := hSF.hasFree (by omega)
     rw [addO_new hr he]
     exact soOpen_new hs hq (by omega) hr he ha hR
 ·
  rw [(opn_bad hx).1, (opn_bad hx).2]
  exact soOpen_bad hx ha hR
end Go.Proofs.Ythjfclljjcpikaa.Sx
