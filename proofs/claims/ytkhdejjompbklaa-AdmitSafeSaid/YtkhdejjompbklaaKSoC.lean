/-
 
-/
import Derived.Test.YtkhdejjompbklaaKSoB
namespace Go.Proofs.Ytkhdejjompbklaa.Sx
open Go
set_option maxRecDepth 20000
set_option linter.unusedVariables false
set_option linter.unusedSimpArgs false
theorem bld106_0_1 (x0 : Int) (x1_a : Option Addr) (x1_n x1_c : Nat) (w : World) : (Instr.build 106 [(0, .int .i64 x0), (1, .slice x1_a x1_n x1_c)].toArray).run Try.prog w = .ok (.agg [.int .i64 x0, .slice x1_a x1_n x1_c, .pointer none, .pointer none, .pointer none].toArray) w := by kernel_rfl
theorem soClose_bad {T : So} {S lim b : Nat} {l : List HP} {w : World} {x : Int} (hx : ¬ (0 ≤ x ∧ x < S)) (hR : Sep (sourceA ss b S lim T :: l) w) : CallR Try.prog 63 [.pointer (some ⟨b, 0, none⟩), .int .i64 x] w (fun v w' => v = .tuple [.int .u32 0, .int .i64 2].toArray ∧ Sep (sourceA ss b S lim T :: l) w') := by
 refine enter Try.func63 rfl Try.ntmps63 (Nat.le_of_ble_eq_true rfl) ?_; intro aa hS
 obtain ⟨bo, ba, bl, r, c, L, us, hT, hS4, hl6, hR⟩ := (hR.pk (r := sourceA _ b _ _ _) pkQ).sourceE
 dsimp only at hR
 have hSF := hT.sf
 have hul := hT.len
 have hwl := (hR.pk (r := linksA _ _ _ bl _ _ _) pkQ).linksWL
 refine wp_seq_k ?_; intro K512 hK512
 refine wp_region_lit ?_
 revert aa
 refine qN hR ?_
 refine qN hR ?_
 intro aa hS
 refine wpList_nil ?_
 refine hK512 _ _ ?_
 refine wp_seq_k ?_; intro K513 hK513
 refine wp_block ?_
 refine wp_seq_k ?_; intro K514 hK514
 refine wp_region_lit ?_
 revert aa
 refine qM hR ?_
 intro aa hS
 refine sB (Bcall hS rfl Try.call60 (sonone_ok (hR.pk (r := blk b _ _) pkQ)) (by decide) ?_); clear hS; intro aa ww vv hS hp
 clear hR
 obtain ⟨rfl, hR⟩ := hp
 revert aa
 refine qN hR ?_
 intro aa hS
 refine wpList_nil ?_
 refine hK514 _ _ ?_
 refine condF hS rfl ?_
 refine wp_seq_k ?_; intro K515 hK515
 refine wp_region_lit ?_
 revert aa
 refine qM hR ?_
 refine qM hR ?_
 intro aa hS
 refine sB (Bcall hS rfl Try.call84 (soright_ok (i := x) (hR.pk (r := blk b _ _) pkQ)) (by decide) ?_); clear hS; intro aa ww vv hS hp
 clear hR
 obtain ⟨rfl, hR⟩ := hp
 revert aa
 refine qB (t := 17) false rfl (by exact decide_eq_false hx) ?_
 refine qA hR rfl (fun _ hS => Yld.not hS rfl) ?_
 refine qN hR ?_
 intro aa hS
 refine wpList_nil ?_
 refine hK515 _ _ ?_
 refine condT hS rfl ?_
 refine wp_seq_k ?_; intro K516 hK516
 refine wp_region_lit ?_
 revert aa
 refine qN hR ?_
 refine qN hR ?_
 intro aa hS
 refine wpList_nil ?_
 refine hK516 _ _ ?_
 refine wp_ret ?_
 repeat first | with_reducible refine thenR ?_ | with_reducible refine blockR ?_ | with_reducible refine scopeR ?_
 refine retN (fn := Try.f63) (e := .ret) (.inl rfl) Try.results63 hS hR ⟨_, .cons (.tmp rfl) (.cons (.tmp rfl) (.nil)), rfl, ?_⟩
 try dsimp only [lay, List.set] at hR
 exact ⟨rfl, Sep.sourceI (t := ss) (b := b) (T := T) hT hS4 hl6 (hR.sub exQ)⟩
theorem soClose_none {T : So} {S lim b : Nat} {l : List HP} {w : World} {s : Nat} (hs : s < S) (hn : ofO T.O (s : Int) = none)  (hR : Sep (sourceA ss b S lim T :: l) w) : CallR Try.prog 63 [.pointer (some ⟨b, 0, none⟩), .int .i64 (s : Int)] w (fun v w' => v = .tuple [.int .u32 0, .int .i64 6].toArray ∧ Sep (sourceA ss b S lim T :: l) w') := by
 refine enter Try.func63 rfl Try.ntmps63 (Nat.le_of_ble_eq_true rfl) ?_; intro aa hS
 obtain ⟨bo, ba, bl, r, c, L, us, hT, hS4, hl6, hR⟩ := (hR.pk (r := sourceA _ b _ _ _) pkQ).sourceE
 dsimp only at hR
 have hSF := hT.sf
 have hul := hT.len
 have hwl := (hR.pk (r := linksA _ _ _ bl _ _ _) pkQ).linksWL
 refine wp_seq_k ?_; intro K517 hK517
 refine wp_region_lit ?_
 revert aa
 refine qN hR ?_
 refine qN hR ?_
 intro aa hS
 refine wpList_nil ?_
 refine hK517 _ _ ?_
 refine wp_seq_k ?_; intro K518 hK518
 refine wp_block ?_
 refine wp_seq_k ?_; intro K519 hK519
 refine wp_region_lit ?_
 revert aa
 refine qM hR ?_
 intro aa hS
 refine sB (Bcall hS rfl Try.call60 (sonone_ok (hR.pk (r := blk b _ _) pkQ)) (by decide) ?_); clear hS; intro aa ww vv hS hp
 clear hR
 obtain ⟨rfl, hR⟩ := hp
 revert aa
 refine qN hR ?_
 intro aa hS
 refine wpList_nil ?_
 refine hK519 _ _ ?_
 refine condF hS rfl ?_
 refine wp_seq_k ?_; intro K520 hK520
 refine wp_region_lit ?_
 revert aa
 refine qM hR ?_
 refine qM hR ?_
 intro aa hS
 refine sB (Bcall hS rfl Try.call84 (soright_ok (i := (s : Int)) (hR.pk (r := blk b _ _) pkQ)) (by decide) ?_); clear hS; intro aa ww vv hS hp
 clear hR
 obtain ⟨rfl, hR⟩ := hp
 revert aa
 refine qB (t := 17) true rfl (by exact decide_eq_true (by omega)) ?_
 refine qA hR rfl (fun _ hS => Yld.not hS rfl) ?_
 refine qN hR ?_
 intro aa hS
 refine wpList_nil ?_
 refine hK520 _ _ ?_
 refine condF hS rfl ?_
 refine wp_skip ?_
 refine hK518 _ _ ?_
 refine wp_seq_k ?_; intro K521 hK521
 refine wp_region_lit ?_
 revert aa
 refine qM hR ?_
 refine qA hR rfl (fun _ hS => Yld.nilCheck hS rfl) ?_
 refine qA hR rfl (fun _ hS => Yld.fieldAddr hS rfl 4 Try.underlying106 rfl rfl info104 (by decide)) ?_
 refine qA hR rfl (fun _ hS => Yld.load1 hS rfl Try.underlying104 rfl rdQ) ?_
 refine qM hR ?_
 intro aa hS
 refine sB (Bcall hS rfl Try.call78 (LOf_ok (x := (s : Int)) (hR.pk (r := linksA _ _ _ bl _ _ _) pkQ)) (by decide) ?_); clear hS; intro aa ww vv hS hp
 clear hR
 obtain ⟨rfl, hR⟩ := hp
 rw [hT.ofNone hn] at hS
 dsimp only [optV, Option.getD, Option.isSome] at hS
 revert aa
 refine qM hR ?_
 refine qX hR ?_
 refine qX hR ?_
 refine qB (t := 27) false rfl (by rfl) ?_
 refine qN hR ?_
 refine qN hR ?_
 intro aa hS
 refine wpList_nil ?_
 refine hK521 _ _ ?_
 refine wp_seq_k ?_; intro K522 hK522
 refine wp_seq_k ?_; intro K523 hK523
 refine wp_region_lit ?_
 revert aa
 refine qM hR ?_
 refine qA hR rfl (fun _ hS => Yld.not hS rfl) ?_
 intro aa hS
 refine wpList_nil ?_
 refine hK523 _ _ ?_
 refine condT hS rfl ?_
 refine wp_seq_k ?_; intro K524 hK524
 refine wp_region_lit ?_
 revert aa
 refine qN hR ?_
 refine qN hR ?_
 intro aa hS
 refine wpList_nil ?_
 refine hK524 _ _ ?_
 refine wp_ret ?_
 repeat first | with_reducible refine thenR ?_ | with_reducible refine blockR ?_ | with_reducible refine scopeR ?_
 refine retN (fn := Try.f63) (e := .ret) (.inl rfl) Try.results63 hS hR ⟨_, .cons (.tmp rfl) (.cons (.tmp rfl) (.nil)), rfl, ?_⟩
 try dsimp only [lay, List.set] at hR
 exact ⟨rfl, Sep.sourceI (t := ss) (b := b) (T := T) hT hS4 hl6 (hR.sub exQ)⟩
set_option maxHeartbeats 1000000 in
theorem soClose_more {T : So} {S lim b : Nat} {l : List HP} {w : World} {s : Nat} (hs : s < S) {a : Int} (hq : ofO T.O (s : Int) = some a) (he : slO (T.O.filter fun p => decide (p.2 ≠ s)) a ≠ []) (hR : Sep (sourceA ss b S lim T :: l) w) : CallR Try.prog 63 [.pointer (some ⟨b, 0, none⟩), .int .i64 (s : Int)] w (fun v w' => v = .tuple [.int .u32 a, .int .i64 0].toArray ∧ Sep (sourceA ss b S lim (remO T a s) :: l) w') := by
 refine enter Try.func63 rfl Try.ntmps63 (Nat.le_of_ble_eq_true rfl) ?_; intro aa hS
 obtain ⟨bo, ba, bl, r, c, L, us, hT, hS4, hl6, hR⟩ := (hR.pk (r := sourceA _ b _ _ _) pkQ).sourceE
 dsimp only at hR
 have hSF := hT.sf
 have hul := hT.len
 have hwl := (hR.pk (r := linksA _ _ _ bl _ _ _) pkQ).linksWL
 obtain ⟨s2, q, hss, hsS, hsm, hsr, hqS, hrc, hof, hol, hsl, hua⟩ := hT.ofSome hwl hq
 obtain rfl : s = s2 := by omega
 obtain ⟨hux, hue⟩ := List.getElem?_eq_some_iff.1 hua
 have hX := hT.rem hwl hsm hsr
 have hol2 := hT.outLen hwl hsm hsr
 obtain ⟨u, hu⟩ := hSF.atr hsr
 have hpos := List.length_pos_iff.2 he
 rw [remO_more he] at hX
 refine wp_seq_k ?_; intro K525 hK525
 refine wp_region_lit ?_
 revert aa
 refine qN hR ?_
 refine qN hR ?_
 intro aa hS
 refine wpList_nil ?_
 refine hK525 _ _ ?_
 refine wp_seq_k ?_; intro K526 hK526
 refine wp_block ?_
 refine wp_seq_k ?_; intro K527 hK527
 refine wp_region_lit ?_
 revert aa
 refine qM hR ?_
 intro aa hS
 refine sB (Bcall hS rfl Try.call60 (sonone_ok (hR.pk (r := blk b _ _) pkQ)) (by decide) ?_); clear hS; intro aa ww vv hS hp
 clear hR
 obtain ⟨rfl, hR⟩ := hp
 revert aa
 refine qN hR ?_
 intro aa hS
 refine wpList_nil ?_
 refine hK527 _ _ ?_
 refine condF hS rfl ?_
 refine wp_seq_k ?_; intro K528 hK528
 refine wp_region_lit ?_
 revert aa
 refine qM hR ?_
 refine qM hR ?_
 intro aa hS
 refine sB (Bcall hS rfl Try.call84 (soright_ok (i := (s : Int)) (hR.pk (r := blk b _ _) pkQ)) (by decide) ?_); clear hS; intro aa ww vv hS hp
 clear hR
 obtain ⟨rfl, hR⟩ := hp
 revert aa
 refine qB (t := 17) true rfl (by exact decide_eq_true (by omega)) ?_
 refine qA hR rfl (fun _ hS => Yld.not hS rfl) ?_
 refine qN hR ?_
 intro aa hS
 refine wpList_nil ?_
 refine hK528 _ _ ?_
 refine condF hS rfl ?_
 refine wp_skip ?_
 refine hK526 _ _ ?_
 refine wp_seq_k ?_; intro K529 hK529
 refine wp_region_lit ?_
 revert aa
 refine qM hR ?_
 refine qA hR rfl (fun _ hS => Yld.nilCheck hS rfl) ?_
 refine qA hR rfl (fun _ hS => Yld.fieldAddr hS rfl 4 Try.underlying106 rfl rfl info104 (by decide)) ?_
 refine qA hR rfl (fun _ hS => Yld.load1 hS rfl Try.underlying104 rfl rdQ) ?_
 refine qM hR ?_
 intro aa hS
 refine sB (Bcall hS rfl Try.call78 (LOf_ok (x := (s : Int)) (hR.pk (r := linksA _ _ _ bl _ _ _) pkQ)) (by decide) ?_); clear hS; intro aa ww vv hS hp
 clear hR
 obtain ⟨rfl, hR⟩ := hp
 rw [hof] at hS
 dsimp only [optV, Option.getD, Option.isSome] at hS
 revert aa
 refine qM hR ?_
 refine qX hR ?_
 refine qX hR ?_
 refine qB (t := 27) true rfl (by rfl) ?_
 refine qN hR ?_
 refine qN hR ?_
 intro aa hS
 refine wpList_nil ?_
 refine hK529 _ _ ?_
 refine wp_seq_k ?_; intro K530 hK530
 refine wp_seq_k ?_; intro K531 hK531
 refine wp_region_lit ?_
 revert aa
 refine qM hR ?_
 refine qA hR rfl (fun _ hS => Yld.not hS rfl) ?_
 intro aa hS
 refine wpList_nil ?_
 refine hK531 _ _ ?_
 refine condF hS rfl ?_
 refine wp_skip ?_
 refine hK530 _ _ ?_
 refine wp_seq_k ?_; intro K532 hK532
 refine wp_region_lit ?_
 revert aa
 refine qM hR ?_
 refine qA hR rfl (fun _ hS => Yld.nilCheck hS rfl) ?_
 refine qA hR rfl (fun _ hS => Yld.fieldAddr hS rfl 1 Try.underlying106 rfl rfl info102 (by decide)) ?_
 refine qA hR rfl (fun _ hS => Yld.load1 hS rfl Try.underlying102 rfl rdQ) ?_
 refine qM hR ?_
 refine qA hR rfl (fun _ hS => ilQ 1 (s) Try.underlying102 info25) ?_
 refine qA hR rfl (fun _ hS => Yld.load1 hS rfl Try.underlying25 rfl (Rd.rec0 (k := s) (xs := us) (v := .int .u32 a) pkQ (by intro _; rfl) hux (by rw [hue]; rfl))) ?_
 refine qN hR ?_
 intro aa hS
 refine wpList_nil ?_
 refine hK532 _ _ ?_
 refine wp_seq_k ?_; intro K533 hK533
 refine wp_region_lit ?_
 revert aa
 refine qM hR ?_
 refine qA hR rfl (fun _ hS => Yld.nilCheck hS rfl) ?_
 refine qA hR rfl (fun _ hS => Yld.fieldAddr hS rfl 4 Try.underlying106 rfl rfl info104 (by decide)) ?_
 refine qA hR rfl (fun _ hS => Yld.load1 hS rfl Try.underlying104 rfl rdQ) ?_
 refine qM hR ?_
 intro aa hS
 refine sB (Bcall hS rfl Try.call77 (LOut_ok (x := (s : Int)) (hR.pk (r := linksA _ _ _ bl _ _ _) pkQ)) (by decide) ?_); clear hS; intro aa ww vv hS hp
 clear hR
 obtain ⟨rfl, hR⟩ := hp
 refine wpList_nil ?_
 refine hK533 _ _ ?_
 refine wp_seq_k ?_; intro K534 hK534
 refine wp_seq_k ?_; intro K535 hK535
 refine wp_region_lit ?_
 revert aa
 refine qM hR ?_
 refine qA hR rfl (fun _ hS => Yld.nilCheck hS rfl) ?_
 refine qA hR rfl (fun _ hS => Yld.fieldAddr hS rfl 4 Try.underlying106 rfl rfl info104 (by decide)) ?_
 refine qA hR rfl (fun _ hS => Yld.load1 hS rfl Try.underlying104 rfl rdQ) ?_
 refine qM hR ?_
 intro aa hS
 refine sB (Bcall hS rfl Try.call58 (LLen_ok (x := (q : Int)) (hR.pk (r := linksA _ _ _ bl _ _ _) pkQ)) (by decide) ?_); clear hS; intro aa ww vv hS hp
 clear hR
 obtain ⟨rfl, hR⟩ := hp
 rw [hol2] at hS
 revert aa
 refine qA hR rfl (fun _ hS => Yld.eql hS rfl rfl) ?_
 refine qB (t := 49) false rfl (by exact decide_eq_false (by omega)) ?_
 intro aa hS
 refine wpList_nil ?_
 refine hK535 _ _ ?_
 refine condF hS rfl ?_
 refine wp_skip ?_
 refine hK534 _ _ ?_
 refine wp_seq_k ?_; intro K536 hK536
 refine wp_region_lit ?_
 revert aa
 refine qM hR ?_
 refine qN hR ?_
 refine qN hR ?_
 intro aa hS
 refine wpList_nil ?_
 refine hK536 _ _ ?_
 refine wp_ret ?_
 repeat first | with_reducible refine thenR ?_ | with_reducible refine blockR ?_ | with_reducible refine scopeR ?_
 refine retN (fn := Try.f63) (e := .ret) (.inl rfl) Try.results63 hS hR ⟨_, .cons (.tmp rfl) (.cons (.tmp rfl) (.nil)), rfl, ?_⟩
 try dsimp only [lay, List.set] at hR
 rw [remO_more he]
 exact ⟨rfl, Sep.sourceI (t := ss) (b := b) (T := { O := T.O.filter fun p => decide (p.2 ≠ s), R := T.R, A := T.A }) hX hS4 hl6 (hR.sub exQ)⟩
set_option maxHeartbeats 1000000 in
theorem soClose_last {T : So} {S lim b : Nat} {l : List HP} {w : World} {s : Nat} (hs : s < S) {a : Int} (hq : ofO T.O (s : Int) = some a) (he : slO (T.O.filter fun p => decide (p.2 ≠ s)) a = []) (hR : Sep (sourceA ss b S lim T :: l) w) : CallR Try.prog 63 [.pointer (some ⟨b, 0, none⟩), .int .i64 (s : Int)] w (fun v w' => v = .tuple [.int .u32 a, .int .i64 0].toArray ∧ Sep (sourceA ss b S lim (remO T a s) :: l) w') := by
 refine enter Try.func63 rfl Try.ntmps63 (Nat.le_of_ble_eq_true rfl) ?_; intro aa hS
 obtain ⟨bo, ba, bl, r, c, L, us, hT, hS4, hl6, hR⟩ := (hR.pk (r := sourceA _ b _ _ _) pkQ).sourceE
 dsimp only at hR
 have hSF := hT.sf
 have hul := hT.len
 have hwl := (hR.pk (r := linksA _ _ _ bl _ _ _) pkQ).linksWL
 obtain ⟨s2, q, hss, hsS, hsm, hsr, hqS, hrc, hof, hol, hsl, hua⟩ := hT.ofSome hwl hq
 obtain rfl : s = s2 := by omega
 obtain ⟨hux, hue⟩ := List.getElem?_eq_some_iff.1 hua
 have hX := hT.rem hwl hsm hsr
 have hol2 := hT.outLen hwl hsm hsr
 obtain ⟨u, hu⟩ := hSF.atr hsr
 have hwa := hSF.wf _ hsr
 have hix := rem_ix hSF hsr
 rw [he] at hol2
 rw [remO_last hrc he] at hX
 refine wp_seq_k ?_; intro K537 hK537
 refine wp_region_lit ?_
 revert aa
 refine qN hR ?_
 refine qN hR ?_
 intro aa hS
 refine wpList_nil ?_
 refine hK537 _ _ ?_
 refine wp_seq_k ?_; intro K538 hK538
 refine wp_block ?_
 refine wp_seq_k ?_; intro K539 hK539
 refine wp_region_lit ?_
 revert aa
 refine qM hR ?_
 intro aa hS
 refine sB (Bcall hS rfl Try.call60 (sonone_ok (hR.pk (r := blk b _ _) pkQ)) (by decide) ?_); clear hS; intro aa ww vv hS hp
 clear hR
 obtain ⟨rfl, hR⟩ := hp
 revert aa
 refine qN hR ?_
 intro aa hS
 refine wpList_nil ?_
 refine hK539 _ _ ?_
 refine condF hS rfl ?_
 refine wp_seq_k ?_; intro K540 hK540
 refine wp_region_lit ?_
 revert aa
 refine qM hR ?_
 refine qM hR ?_
 intro aa hS
 refine sB (Bcall hS rfl Try.call84 (soright_ok (i := (s : Int)) (hR.pk (r := blk b _ _) pkQ)) (by decide) ?_); clear hS; intro aa ww vv hS hp
 clear hR
 obtain ⟨rfl, hR⟩ := hp
 revert aa
 refine qB (t := 17) true rfl (by exact decide_eq_true (by omega)) ?_
 refine qA hR rfl (fun _ hS => Yld.not hS rfl) ?_
 refine qN hR ?_
 intro aa hS
 refine wpList_nil ?_
 refine hK540 _ _ ?_
 refine condF hS rfl ?_
 refine wp_skip ?_
 refine hK538 _ _ ?_
 refine wp_seq_k ?_; intro K541 hK541
 refine wp_region_lit ?_
 revert aa
 refine qM hR ?_
 refine qA hR rfl (fun _ hS => Yld.nilCheck hS rfl) ?_
 refine qA hR rfl (fun _ hS => Yld.fieldAddr hS rfl 4 Try.underlying106 rfl rfl info104 (by decide)) ?_
 refine qA hR rfl (fun _ hS => Yld.load1 hS rfl Try.underlying104 rfl rdQ) ?_
 refine qM hR ?_
 intro aa hS
 refine sB (Bcall hS rfl Try.call78 (LOf_ok (x := (s : Int)) (hR.pk (r := linksA _ _ _ bl _ _ _) pkQ)) (by decide) ?_); clear hS; intro aa ww vv hS hp
 clear hR
 obtain ⟨rfl, hR⟩ := hp
 rw [hof] at hS
 dsimp only [optV, Option.getD, Option.isSome] at hS
 revert aa
 refine qM hR ?_
 refine qX hR ?_
 refine qX hR ?_
 refine qB (t := 27) true rfl (by rfl) ?_
 refine qN hR ?_
 refine qN hR ?_
 intro aa hS
 refine wpList_nil ?_
 refine hK541 _ _ ?_
 refine wp_seq_k ?_; intro K542 hK542
 refine wp_seq_k ?_; intro K543 hK543
 refine wp_region_lit ?_
 revert aa
 refine qM hR ?_
 refine qA hR rfl (fun _ hS => Yld.not hS rfl) ?_
 intro aa hS
 refine wpList_nil ?_
 refine hK543 _ _ ?_
 refine condF hS rfl ?_
 refine wp_skip ?_
 refine hK542 _ _ ?_
 refine wp_seq_k ?_; intro K544 hK544
 refine wp_region_lit ?_
 revert aa
 refine qM hR ?_
 refine qA hR rfl (fun _ hS => Yld.nilCheck hS rfl) ?_
 refine qA hR rfl (fun _ hS => Yld.fieldAddr hS rfl 1 Try.underlying106 rfl rfl info102 (by decide)) ?_
 refine qA hR rfl (fun _ hS => Yld.load1 hS rfl Try.underlying102 rfl rdQ) ?_
 refine qM hR ?_
 refine qA hR rfl (fun _ hS => ilQ 1 (s) Try.underlying102 info25) ?_
 refine qA hR rfl (fun _ hS => Yld.load1 hS rfl Try.underlying25 rfl (Rd.rec0 (k := s) (xs := us) (v := .int .u32 a) pkQ (by intro _; rfl) hux (by rw [hue]; rfl))) ?_
 refine qN hR ?_
 intro aa hS
 refine wpList_nil ?_
 refine hK544 _ _ ?_
 refine wp_seq_k ?_; intro K545 hK545
 refine wp_region_lit ?_
 revert aa
 refine qM hR ?_
 refine qA hR rfl (fun _ hS => Yld.nilCheck hS rfl) ?_
 refine qA hR rfl (fun _ hS => Yld.fieldAddr hS rfl 4 Try.underlying106 rfl rfl info104 (by decide)) ?_
 refine qA hR rfl (fun _ hS => Yld.load1 hS rfl Try.underlying104 rfl rdQ) ?_
 refine qM hR ?_
 intro aa hS
 refine sB (Bcall hS rfl Try.call77 (LOut_ok (x := (s : Int)) (hR.pk (r := linksA _ _ _ bl _ _ _) pkQ)) (by decide) ?_); clear hS; intro aa ww vv hS hp
 clear hR
 obtain ⟨rfl, hR⟩ := hp
 refine wpList_nil ?_
 refine hK545 _ _ ?_
 refine wp_seq_k ?_; intro K546 hK546
 refine wp_seq_k ?_; intro K547 hK547
 refine wp_region_lit ?_
 revert aa
 refine qM hR ?_
 refine qA hR rfl (fun _ hS => Yld.nilCheck hS rfl) ?_
 refine qA hR rfl (fun _ hS => Yld.fieldAddr hS rfl 4 Try.underlying106 rfl rfl info104 (by decide)) ?_
 refine qA hR rfl (fun _ hS => Yld.load1 hS rfl Try.underlying104 rfl rdQ) ?_
 refine qM hR ?_
 intro aa hS
 refine sB (Bcall hS rfl Try.call58 (LLen_ok (x := (q : Int)) (hR.pk (r := linksA _ _ _ bl _ _ _) pkQ)) (by decide) ?_); clear hS; intro aa ww vv hS hp
 clear hR
 obtain ⟨rfl, hR⟩ := hp
 rw [hol2] at hS
 revert aa
 refine qA hR rfl (fun _ hS => Yld.eql hS rfl rfl) ?_
 refine qB (t := 49) true rfl (by exact decide_eq_true rfl) ?_
 intro aa hS
 refine wpList_nil ?_
 refine hK547 _ _ ?_
 refine condT hS rfl ?_
 refine wp_seq_k ?_; intro K548 hK548
 refine wp_region_lit ?_
 revert aa
 refine qM hR ?_
 refine qA hR rfl (fun _ hS => Yld.nilCheck hS rfl) ?_
 refine qA hR rfl (fun _ hS => Yld.fieldAddr hS rfl 3 Try.underlying106 rfl rfl info70 (by decide)) ?_
 refine qA hR rfl (fun _ hS => Yld.load1 hS rfl Try.underlying70 rfl rdQ) ?_
 refine qM hR ?_
 intro aa hS
 refine sB (Bcall hS rfl Try.call64 (At_okA (s := (q : Int)) (hR.pk (r := arena _ _ ba _) pkQ)) (by decide) ?_); clear hS; intro aa ww vv hS hp
 clear hR
 obtain ⟨rfl, hR⟩ := hp
 rw [atV_some hu] at hS
 revert aa
 refine qM hR ?_
 refine qX hR ?_
 refine qX hR ?_
 intro aa hS
 refine sB (Balloc hS hR info116 (by rfl) (by rfl) (by decide) ?_); clear hS hR; intro aa ww bb9 hS hR
 refine sB (Bstore hS hR rfl rfl (by rfl) info116 (by rfl) pkQ (by rfl) (Nat.le_of_ble_eq_true rfl) ?_); clear hR; intro ww hR
 revert aa
 refine qN hR ?_
 intro aa hS
 refine wpList_nil ?_
 refine hK548 _ _ ?_
 refine wp_seq_k ?_; intro K549 hK549
 refine drawn krQ hR (Ex.of_pk (r := arena _ _ ba _) pkQ) ?_; clear hR; intro ww hR hR0
 revert aa
 refine eA 0 rfl krQ (fun _ _ _ h => h) hR0 rfl (fun _ hS => Yld.move hS rfl) ?_
 refine eA 1 rfl krQ (fun _ _ _ h => h) hR0 rfl (fun _ hS => Yld.nilCheck hS rfl) ?_
 refine eA 2 rfl krQ (fun _ _ _ h => h) hR0 rfl (fun _ hS => Yld.fieldAddr hS rfl 3 Try.underlying106 rfl rfl info70 (by decide)) ?_
 refine eA 3 rfl krQ (fun _ _ _ h => h) hR0 rfl (fun _ hS => Yld.load1 hS rfl Try.underlying70 rfl rdQ) ?_
 intro aa hS
 refine dA 4 rfl krQ krQ krQ (fun _ _ _ h => h) hS hR0 (Yld.loadAgg hS rfl Try.underlying116 rfl info116 rdsQ2 (by rfl)) (by decide) ?_; clear hS; intro aa hS
 refine dOne (i := 5) krQ ?_
 refine dop rfl (Bcall hS rfl Try.call65 (Give_okA (s := (q : Int)) (u := u) (hR.pk (r := arena _ _ ba _) pkQ)) (by decide) ?_); clear hS; intro aa ww vv hS hp
 clear hR hR0
 obtain ⟨rfl, hR⟩ := hp
 rw [Ar.giveH_yes hu] at hR; rw [show T.A.giveE (q : Int) u = 0 from if_pos hu] at hS
 refine dnext (hR.sub exQ) ?_; intro hR0
 refine wpAnyH_done krQ ?_ _; clear hR0
 refine hK549 _ _ ?_
 refine drawn krQ hR (Ex.of_pk (r := trieA _ _ _ bo _ _) pkQ) ?_; clear hR; intro ww hR hR0
 revert aa
 refine eA 0 rfl krQ (fun _ _ _ h => h) hR0 rfl (fun _ hS => Yld.move hS rfl) ?_
 refine eA 1 rfl krQ (fun _ _ _ h => h) hR0 rfl (fun _ hS => Yld.nilCheck hS rfl) ?_
 refine eA 2 rfl krQ (fun _ _ _ h => h) hR0 rfl (fun _ hS => Yld.fieldAddr hS rfl 2 Try.underlying106 rfl rfl info103 (by decide)) ?_
 refine eA 3 rfl krQ (fun _ _ _ h => h) hR0 rfl (fun _ hS => Yld.load1 hS rfl Try.underlying103 rfl rdQ) ?_
 refine eA 4 rfl krQ (fun _ _ _ h => h) hR0 rfl (fun _ hS => Yld.move hS rfl) ?_
 intro aa hS
 refine dOne (i := 5) krQ ?_
 refine dop rfl (Bcall hS rfl Try.call69 (sokey_ok hR) (by decide) ?_); clear hS; intro aa ww vv hS hp
 clear hR hR0
 obtain ⟨rfl, hR⟩ := hp
 refine dnext (hR.sub exQ) ?_; intro hR0
 refine dOne (i := 6) krQ ?_
 refine dop rfl (Bcall hS rfl Try.call85 (Out_ok (k := kA a) (hR.pk (r := trieA _ _ _ bo _ _) pkQ) (kA_wf hwa)) (by decide) ?_); clear hS; intro aa ww vv hS hp
 clear hR hR0
 obtain ⟨rfl, hR⟩ := hp
 rw [hix] at hR
 refine dnext (hR.sub exQ) ?_; intro hR0
 refine wpAnyH_done krQ ?_ _; clear hR0
 refine hK546 _ _ ?_
 refine wp_seq_k ?_; intro K550 hK550
 refine wp_region_lit ?_
 revert aa
 refine qM hR ?_
 refine qN hR ?_
 refine qN hR ?_
 intro aa hS
 refine wpList_nil ?_
 refine hK550 _ _ ?_
 refine wp_ret ?_
 repeat first | with_reducible refine thenR ?_ | with_reducible refine blockR ?_ | with_reducible refine scopeR ?_
 refine retN (fn := Try.f63) (e := .ret) (.inl rfl) Try.results63 hS hR ⟨_, .cons (.tmp rfl) (.cons (.tmp rfl) (.nil)), rfl, ?_⟩
 try dsimp only [lay, List.set] at hR
 rw [remO_last hrc he]
 exact ⟨rfl, Sep.sourceI (t := ss) (b := b) (T := { O := T.O.filter fun p => decide (p.2 ≠ s), R := T.R.filter fun p => decide (p.1 ≠ a), A := T.A.give q }) hX hS4 hl6 (hR.sub exQ)⟩
theorem soClose_ok {T : So} {S lim b : Nat} {l : List HP} {w : World} {x : Int} (hR : Sep (sourceA ss b S lim T :: l) w) : CallR Try.prog 63 [.pointer (some ⟨b, 0, none⟩), .int .i64 x] w (fun v w' => v = .tuple [.int .u32 ((ofO T.O x).getD 0), .int .i64 (clsE S T x)].toArray ∧ Sep (sourceA ss b S lim (clsN T x) :: l) w') := by
 obtain ⟨bo, ba, bl, r, c, L, us, hT, hS4, hl6, hR⟩ := hR.sourceE
 have hSF := hT.sf
 replace hR := Sep.sourceI hT hS4 hl6 hR
 by_cases hx : 0 ≤ x ∧ x < S
 ·
  obtain ⟨s, rfl⟩ : ∃ s : Nat, x = s := ⟨x.toNat, by omega⟩
  have hs : s < S := by omega
  cases hq : ofO T.O (s : Int) with
  | none =>
   rw [(cls_none hx hq).1, (cls_none hx hq).2]
   exact soClose_none hs hq hR
  | some a =>
   rw [(cls_ok hs hq).1, (cls_ok hs hq).2]
   by_cases he : slO (T.O.filter fun p => decide (p.2 ≠ s)) a = []
   ·
    exact soClose_last hs hq he hR
   ·
    exact soClose_more hs hq he hR
 ·
  rw [(hSF.cls_bad hx).1, (hSF.cls_bad hx).2, hSF.off hx]
  exact soClose_bad hx hR
set_option maxHeartbeats 1000000 in
theorem soNew_ok {S lim : Nat} {l : List HP} {w : World} (hR : Sep l w) (h1 : 1 ≤ S) (h2 : S ≤ 4096) (h3 : 1 ≤ lim) (h4 : lim ≤ 64) : CallR Try.prog 45 [.int .i64 (S : Int), .int .i64 (lim : Int)] w (fun v w' => ∃ b, v = .tuple [.pointer (some ⟨b, 0, none⟩), .int .i64 0].toArray ∧ Sep (sourceA ss b S lim { O := [], R := [], A := Ar.new S } :: l) w') := by
 refine enter Try.func45 rfl Try.ntmps45 (Nat.le_of_ble_eq_true rfl) ?_; intro aa hS
 refine wp_seq_k ?_; intro K558 hK558
 refine wp_region_lit ?_
 revert aa
 refine qN hR ?_
 refine qN hR ?_
 intro aa hS
 refine wpList_nil ?_
 refine hK558 _ _ ?_
 refine wp_seq_k ?_; intro K559 hK559
 refine wp_seq_k ?_; intro K560 hK560
 refine wp_region_lit ?_
 revert aa
 refine qM hR ?_
 refine qA hR rfl (fun _ hS => Yld.lss hS rfl rfl) ?_
 refine qB (t := 8) false rfl (by exact decide_eq_false (by omega)) ?_
 refine qM hR ?_
 refine qMg hR ?_
 refine qAg hR rfl rfl rfl (fun _ hS => Yld.gtr hS rfl rfl) ?_
 refine qB (t := 11) false rfl (by exact decide_eq_false (by omega)) ?_
 refine qA hR rfl (fun _ hS => Yld.pickF hS rfl rfl) ?_
 refine qM hR ?_
 refine qMg hR ?_
 refine qAg hR rfl rfl rfl (fun _ hS => Yld.lss hS rfl rfl) ?_
 refine qB (t := 15) false rfl (by exact decide_eq_false (by omega)) ?_
 refine qA hR rfl (fun _ hS => Yld.pickF hS rfl rfl) ?_
 refine qM hR ?_
 refine qMg hR ?_
 refine qAg hR rfl rfl rfl (fun _ hS => Yld.gtr hS rfl rfl) ?_
 refine qB (t := 19) false rfl (by exact decide_eq_false (by omega)) ?_
 refine qA hR rfl (fun _ hS => Yld.pickF hS rfl rfl) ?_
 intro aa hS
 refine wpList_nil ?_
 refine hK560 _ _ ?_
 refine condF hS rfl ?_
 refine wp_skip ?_
 refine hK559 _ _ ?_
 refine wp_seq_k ?_; intro K561 hK561
 refine wp_region_lit ?_
 revert aa
 refine qM hR ?_
 refine qM hR ?_
 intro aa hS
 refine sB (Bmake (zc := [.int .u32 0]) hS hR rfl rfl Try.underlying102 info25 rfl (by rfl) (by rfl) (by decide) (by omega) (by show ((4 : Nat) : Int) * _ ≤ _; omega) (by omega) (by decide) ?_); clear hS hR; intro aa ww bb23 hS hR
 rw [show ((S : Int)).toNat = S from Int.toNat_natCast S] at hS hR
 replace hR := hR.pk (r := blk bb23 _ _) pkQ
 rw [zeros_flat (zc := [.int .u32 0]) (enc := eUi) (0 : Int) S rfl] at hR
 replace hR := Sep.toRecs (m := S) (sz := 1) (enc := eUi) (List.replicate S 0) hR rfl (by intro _; rfl) (by rw [List.length_replicate])
 refine sA hS hR (Yld.build hS rfl (bld106_0_1 _ _ _ _)) (by decide) ?_; clear hS; intro aa hS
 refine sB (Bbox hS hR rfl (by rfl) (by decide) ?_); clear hS hR; intro aa ww bb25 hS hR
 revert aa
 refine qN hR ?_
 intro aa hS
 refine wpList_nil ?_
 refine hK561 _ _ ?_
 refine wp_seq_k ?_; intro K562 hK562
 refine wp_region_lit ?_
 revert aa
 refine qM hR ?_
 refine qM hR ?_
 intro aa hS
 refine sB (Bcall hS rfl Try.call71 (TNew_ok (n := (S : Int)) hR (by omega)) (by decide) ?_); clear hS; intro aa ww vv hS hp
 clear hR
 obtain ⟨bo, rfl, hR⟩ := hp
 change Sep (trieA _ _ _ bo (ixK []) _ :: _) _ at hR
 revert aa
 refine qM hR ?_
 refine qX hR ?_
 refine qX hR ?_
 refine qA hR rfl (fun _ hS => Yld.nilCheck hS rfl) ?_
 refine qA hR rfl (fun _ hS => Yld.fieldAddr hS rfl 2 Try.underlying106 rfl rfl info103 (by decide)) ?_
 intro aa hS
 refine sB (Bstore hS hR rfl rfl (by rfl) info103 (by rfl) pkQ (by rfl) (Nat.le_of_ble_eq_true rfl) ?_); clear hR; intro ww hR
 refine wpList_nil ?_
 refine hK562 _ _ ?_
 refine wp_seq_k ?_; intro K563 hK563
 refine wp_region_lit ?_
 revert aa
 refine qM hR ?_
 refine qM hR ?_
 intro aa hS
 refine sB (Bcall hS rfl Try.call47 (New_ok (n := (S : Int)) hR (by omega)) (by decide) ?_); clear hS; intro aa ww vv hS hp
 clear hR
 obtain ⟨ba, rfl, hR⟩ := hp
 rw [Int.toNat_natCast] at hR
 revert aa
 refine qM hR ?_
 refine qX hR ?_
 refine qX hR ?_
 refine qA hR rfl (fun _ hS => Yld.nilCheck hS rfl) ?_
 refine qA hR rfl (fun _ hS => Yld.fieldAddr hS rfl 3 Try.underlying106 rfl rfl info70 (by decide)) ?_
 intro aa hS
 refine sB (Bstore hS hR rfl rfl (by rfl) info70 (by rfl) pkQ (by rfl) (Nat.le_of_ble_eq_true rfl) ?_); clear hR; intro ww hR
 refine wpList_nil ?_
 refine hK563 _ _ ?_
 refine wp_seq_k ?_; intro K564 hK564
 refine wp_region_lit ?_
 revert aa
 refine qM hR ?_
 refine qM hR ?_
 refine qM hR ?_
 intro aa hS
 refine sB (Bcall hS rfl Try.call72 (LNew_ok (S := S) (n := S) hR (by omega) (by omega) (by omega) (by omega)) (by decide) ?_); clear hS; intro aa ww vv hS hp
 clear hR
 obtain ⟨bl, rfl, hR⟩ := hp
 revert aa
 refine qM hR ?_
 refine qX hR ?_
 refine qX hR ?_
 refine qA hR rfl (fun _ hS => Yld.nilCheck hS rfl) ?_
 refine qA hR rfl (fun _ hS => Yld.fieldAddr hS rfl 4 Try.underlying106 rfl rfl info104 (by decide)) ?_
 intro aa hS
 refine sB (Bstore hS hR rfl rfl (by rfl) info104 (by rfl) pkQ (by rfl) (Nat.le_of_ble_eq_true rfl) ?_); clear hR; intro ww hR
 refine wpList_nil ?_
 refine hK564 _ _ ?_
 refine wp_seq_k ?_; intro K565 hK565
 refine wp_region_lit ?_
 revert aa
 refine qM hR ?_
 refine qN hR ?_
 refine qN hR ?_
 intro aa hS
 refine wpList_nil ?_
 refine hK565 _ _ ?_
 refine wp_ret ?_
 repeat first | with_reducible refine thenR ?_ | with_reducible refine blockR ?_ | with_reducible refine scopeR ?_
 refine retN (fn := Try.f45) (e := .ret) (.inl rfl) Try.results45 hS hR ⟨_, .cons (.tmp rfl) (.cons (.tmp rfl) (.nil)), rfl, ?_⟩
 try dsimp only [lay, List.set] at hR
 have h9 : Sep (sourceA ss bb25 S lim { O := [], R := [], A := Ar.new S } :: l) _ := Sep.sourceI (t := ss) (b := bb25) (T := { O := [], R := [], A := Ar.new S }) (SI.new h1 h2) h2 h4 (hR.sub exQ)
 exact ⟨bb25, rfl, h9⟩
end Go.Proofs.Ytkhdejjompbklaa.Sx
