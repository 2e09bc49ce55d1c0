/-
 
-/
import Derived.Test.YtkhdejjompbklaaGreatOSoB
namespace Go.Proofs.YtkhdejjompbklaaGreat.Sx
open Go
set_option maxRecDepth 20000
set_option linter.unusedVariables false
set_option linter.unusedSimpArgs false
theorem bld129_0_1 (x0 : Int) (x1_a : Option Addr) (x1_n x1_c : Nat) (w : World) : (Instr.build 129 [(0, .int .i64 x0), (1, .slice x1_a x1_n x1_c)].toArray).run Tryz.prog w = .ok (.agg [.int .i64 x0, .slice x1_a x1_n x1_c, .pointer none, .pointer none, .pointer none].toArray) w := by kernel_rfl
theorem soClose_bad {T : So} {S lim b : Nat} {l : List HP} {w : World} {x : Int} (hx : ¬ (0 ≤ x ∧ x < S)) (hR : Sep (sourceA ss b S lim T :: l) w) : CallR Tryz.prog 95 [.pointer (some ⟨b, 0, none⟩), .int .i64 x] w (fun v w' => v = .tuple [.int .u32 0, .int .i64 2].toArray ∧ Sep (sourceA ss b S lim T :: l) w') := by
 refine enter Tryz.func95 rfl Tryz.ntmps95 (Nat.le_of_ble_eq_true rfl) ?_; intro aa hS
 obtain ⟨bo, ba, bl, r, c, L, us, hT, hS4, hl6, hR⟩ := (hR.pk (r := sourceA _ b _ _ _) pkQ).sourceE
 dsimp only at hR
 have hSF := hT.sf
 have hul := hT.len
 have hwl := (hR.pk (r := linksA _ _ _ bl _ _ _) pkQ).linksWL
 refine wp_seq_k ?_; intro K565 hK565
 refine wp_region_lit ?_
 revert aa
 refine qN hR ?_
 refine qN hR ?_
 intro aa hS
 refine wpList_nil ?_
 refine hK565 _ _ ?_
 refine wp_seq_k ?_; intro K566 hK566
 refine wp_block ?_
 refine wp_seq_k ?_; intro K567 hK567
 refine wp_region_lit ?_
 revert aa
 refine qM hR ?_
 intro aa hS
 refine sB (Bcall hS rfl Tryz.call77 (sonone_ok (hR.pk (r := blk b _ _) pkQ)) (by decide) ?_); clear hS; intro aa ww vv hS hp
 clear hR
 obtain ⟨rfl, hR⟩ := hp
 revert aa
 refine qN hR ?_
 intro aa hS
 refine wpList_nil ?_
 refine hK567 _ _ ?_
 refine condF hS rfl ?_
 refine wp_seq_k ?_; intro K568 hK568
 refine wp_region_lit ?_
 revert aa
 refine qM hR ?_
 refine qM hR ?_
 intro aa hS
 refine sB (Bcall hS rfl Tryz.call124 (soright_ok (i := x) (hR.pk (r := blk b _ _) pkQ)) (by decide) ?_); clear hS; intro aa ww vv hS hp
 clear hR
 obtain ⟨rfl, hR⟩ := hp
 revert aa
 refine qB (t := 17) false rfl (by exact decide_eq_false hx) ?_
 refine qA hR rfl (fun _ hS => Yld.not hS rfl) ?_
 refine qN hR ?_
 intro aa hS
 refine wpList_nil ?_
 refine hK568 _ _ ?_
 refine condT hS rfl ?_
 refine wp_seq_k ?_; intro K569 hK569
 refine wp_region_lit ?_
 revert aa
 refine qN hR ?_
 refine qN hR ?_
 intro aa hS
 refine wpList_nil ?_
 refine hK569 _ _ ?_
 refine wp_ret ?_
 repeat first | with_reducible refine thenR ?_ | with_reducible refine blockR ?_ | with_reducible refine scopeR ?_
 refine retN (fn := Tryz.f95) (e := .ret) (.inl rfl) Tryz.results95 hS hR ⟨_, .cons (.tmp rfl) (.cons (.tmp rfl) (.nil)), rfl, ?_⟩
 try dsimp only [lay, List.set] at hR
 exact ⟨rfl, Sep.sourceI (t := ss) (b := b) (T := T) hT hS4 hl6 (hR.sub exQ)⟩
theorem soClose_none {T : So} {S lim b : Nat} {l : List HP} {w : World} {s : Nat} (hs : s < S) (hn : ofO T.O (s : Int) = none)  (hR : Sep (sourceA ss b S lim T :: l) w) : CallR Tryz.prog 95 [.pointer (some ⟨b, 0, none⟩), .int .i64 (s : Int)] w (fun v w' => v = .tuple [.int .u32 0, .int .i64 6].toArray ∧ Sep (sourceA ss b S lim T :: l) w') := by
 refine enter Tryz.func95 rfl Tryz.ntmps95 (Nat.le_of_ble_eq_true rfl) ?_; intro aa hS
 obtain ⟨bo, ba, bl, r, c, L, us, hT, hS4, hl6, hR⟩ := (hR.pk (r := sourceA _ b _ _ _) pkQ).sourceE
 dsimp only at hR
 have hSF := hT.sf
 have hul := hT.len
 have hwl := (hR.pk (r := linksA _ _ _ bl _ _ _) pkQ).linksWL
 refine wp_seq_k ?_; intro K570 hK570
 refine wp_region_lit ?_
 revert aa
 refine qN hR ?_
 refine qN hR ?_
 intro aa hS
 refine wpList_nil ?_
 refine hK570 _ _ ?_
 refine wp_seq_k ?_; intro K571 hK571
 refine wp_block ?_
 refine wp_seq_k ?_; intro K572 hK572
 refine wp_region_lit ?_
 revert aa
 refine qM hR ?_
 intro aa hS
 refine sB (Bcall hS rfl Tryz.call77 (sonone_ok (hR.pk (r := blk b _ _) pkQ)) (by decide) ?_); clear hS; intro aa ww vv hS hp
 clear hR
 obtain ⟨rfl, hR⟩ := hp
 revert aa
 refine qN hR ?_
 intro aa hS
 refine wpList_nil ?_
 refine hK572 _ _ ?_
 refine condF hS rfl ?_
 refine wp_seq_k ?_; intro K573 hK573
 refine wp_region_lit ?_
 revert aa
 refine qM hR ?_
 refine qM hR ?_
 intro aa hS
 refine sB (Bcall hS rfl Tryz.call124 (soright_ok (i := (s : Int)) (hR.pk (r := blk b _ _) pkQ)) (by decide) ?_); clear hS; intro aa ww vv hS hp
 clear hR
 obtain ⟨rfl, hR⟩ := hp
 revert aa
 refine qB (t := 17) true rfl (by exact decide_eq_true (by omega)) ?_
 refine qA hR rfl (fun _ hS => Yld.not hS rfl) ?_
 refine qN hR ?_
 intro aa hS
 refine wpList_nil ?_
 refine hK573 _ _ ?_
 refine condF hS rfl ?_
 refine wp_skip ?_
 refine hK571 _ _ ?_
 refine wp_seq_k ?_; intro K574 hK574
 refine wp_region_lit ?_
 revert aa
 refine qM hR ?_
 refine qA hR rfl (fun _ hS => Yld.nilCheck hS rfl) ?_
 refine qA hR rfl (fun _ hS => Yld.fieldAddr hS rfl 4 Tryz.underlying129 rfl rfl info123 (by decide)) ?_
 refine qA hR rfl (fun _ hS => Yld.load1 hS rfl Tryz.underlying123 rfl rdQ) ?_
 refine qM hR ?_
 intro aa hS
 refine sB (Bcall hS rfl Tryz.call76 (LOf_ok (x := (s : Int)) (hR.pk (r := linksA _ _ _ bl _ _ _) pkQ)) (by decide) ?_); clear hS; intro aa ww vv hS hp
 clear hR
 obtain ⟨rfl, hR⟩ := hp
 rw [hT.ofNone hn] at hS
 dsimp only [optV, Option.getD, Option.isSome] at hS
 revert aa
 refine qM hR ?_
 refine qX hR ?_
 refine qX hR ?_
 refine qB (t := 27) false rfl (by rfl) ?_
 refine qN hR ?_
 refine qN hR ?_
 intro aa hS
 refine wpList_nil ?_
 refine hK574 _ _ ?_
 refine wp_seq_k ?_; intro K575 hK575
 refine wp_seq_k ?_; intro K576 hK576
 refine wp_region_lit ?_
 revert aa
 refine qM hR ?_
 refine qA hR rfl (fun _ hS => Yld.not hS rfl) ?_
 intro aa hS
 refine wpList_nil ?_
 refine hK576 _ _ ?_
 refine condT hS rfl ?_
 refine wp_seq_k ?_; intro K577 hK577
 refine wp_region_lit ?_
 revert aa
 refine qN hR ?_
 refine qN hR ?_
 intro aa hS
 refine wpList_nil ?_
 refine hK577 _ _ ?_
 refine wp_ret ?_
 repeat first | with_reducible refine thenR ?_ | with_reducible refine blockR ?_ | with_reducible refine scopeR ?_
 refine retN (fn := Tryz.f95) (e := .ret) (.inl rfl) Tryz.results95 hS hR ⟨_, .cons (.tmp rfl) (.cons (.tmp rfl) (.nil)), rfl, ?_⟩
 try dsimp only [lay, List.set] at hR
 exact ⟨rfl, Sep.sourceI (t := ss) (b := b) (T := T) hT hS4 hl6 (hR.sub exQ)⟩
set_option maxHeartbeats 1000000 in
theorem soClose_more {T : So} {S lim b : Nat} {l : List HP} {w : World} {s : Nat} (hs : s < S) {a : Int} (hq : ofO T.O (s : Int) = some a) (he : slO (T.O.filter fun p => decide (p.2 ≠ s)) a ≠ []) (hR : Sep (sourceA ss b S lim T :: l) w) : CallR Tryz.prog 95 [.pointer (some ⟨b, 0, none⟩), .int .i64 (s : Int)] w (fun v w' => v = .tuple [.int .u32 a, .int .i64 0].toArray ∧ Sep (sourceA ss b S lim (remO T a s) :: l) w') := by
 refine enter Tryz.func95 rfl Tryz.ntmps95 (Nat.le_of_ble_eq_true rfl) ?_; intro aa hS
 obtain ⟨bo, ba, bl, r, c, L, us, hT, hS4, hl6, hR⟩ := (hR.pk (r := sourceA _ b _ _ _) pkQ).sourceE
 dsimp only at hR
 have hSF := hT.sf
 have hul := hT.len
 have hwl := (hR.pk (r := linksA _ _ _ bl _ _ _) pkQ).linksWL
 obtain ⟨s2, q, hss, hsS, hsm, hsr, hqS, hrc, hof, hol, hsl, hua⟩ := hT.ofSome hwl hq
 obtain rfl : s = s2 := by omega
 obtain ⟨hux, hue⟩ := List.getElem?_eq_some_iff.1 hua
 have hX := hT.rem hwl hsm hsr
 have hol2 := hT.outLen hwl hsm hsr
 obtain ⟨u, hu⟩ := hSF.atr hsr
 have hpos := List.length_pos_iff.2 he
 rw [remO_more he] at hX
 refine wp_seq_k ?_; intro K578 hK578
 refine wp_region_lit ?_
 revert aa
 refine qN hR ?_
 refine qN hR ?_
 intro aa hS
 refine wpList_nil ?_
 refine hK578 _ _ ?_
 refine wp_seq_k ?_; intro K579 hK579
 refine wp_block ?_
 refine wp_seq_k ?_; intro K580 hK580
 refine wp_region_lit ?_
 revert aa
 refine qM hR ?_
 intro aa hS
 refine sB (Bcall hS rfl Tryz.call77 (sonone_ok (hR.pk (r := blk b _ _) pkQ)) (by decide) ?_); clear hS; intro aa ww vv hS hp
 clear hR
 obtain ⟨rfl, hR⟩ := hp
 revert aa
 refine qN hR ?_
 intro aa hS
 refine wpList_nil ?_
 refine hK580 _ _ ?_
 refine condF hS rfl ?_
 refine wp_seq_k ?_; intro K581 hK581
 refine wp_region_lit ?_
 revert aa
 refine qM hR ?_
 refine qM hR ?_
 intro aa hS
 refine sB (Bcall hS rfl Tryz.call124 (soright_ok (i := (s : Int)) (hR.pk (r := blk b _ _) pkQ)) (by decide) ?_); clear hS; intro aa ww vv hS hp
 clear hR
 obtain ⟨rfl, hR⟩ := hp
 revert aa
 refine qB (t := 17) true rfl (by exact decide_eq_true (by omega)) ?_
 refine qA hR rfl (fun _ hS => Yld.not hS rfl) ?_
 refine qN hR ?_
 intro aa hS
 refine wpList_nil ?_
 refine hK581 _ _ ?_
 refine condF hS rfl ?_
 refine wp_skip ?_
 refine hK579 _ _ ?_
 refine wp_seq_k ?_; intro K582 hK582
 refine wp_region_lit ?_
 revert aa
 refine qM hR ?_
 refine qA hR rfl (fun _ hS => Yld.nilCheck hS rfl) ?_
 refine qA hR rfl (fun _ hS => Yld.fieldAddr hS rfl 4 Tryz.underlying129 rfl rfl info123 (by decide)) ?_
 refine qA hR rfl (fun _ hS => Yld.load1 hS rfl Tryz.underlying123 rfl rdQ) ?_
 refine qM hR ?_
 intro aa hS
 refine sB (Bcall hS rfl Tryz.call76 (LOf_ok (x := (s : Int)) (hR.pk (r := linksA _ _ _ bl _ _ _) pkQ)) (by decide) ?_); clear hS; intro aa ww vv hS hp
 clear hR
 obtain ⟨rfl, hR⟩ := hp
 rw [hof] at hS
 dsimp only [optV, Option.getD, Option.isSome] at hS
 revert aa
 refine qM hR ?_
 refine qX hR ?_
 refine qX hR ?_
 refine qB (t := 27) true rfl (by rfl) ?_
 refine qN hR ?_
 refine qN hR ?_
 intro aa hS
 refine wpList_nil ?_
 refine hK582 _ _ ?_
 refine wp_seq_k ?_; intro K583 hK583
 refine wp_seq_k ?_; intro K584 hK584
 refine wp_region_lit ?_
 revert aa
 refine qM hR ?_
 refine qA hR rfl (fun _ hS => Yld.not hS rfl) ?_
 intro aa hS
 refine wpList_nil ?_
 refine hK584 _ _ ?_
 refine condF hS rfl ?_
 refine wp_skip ?_
 refine hK583 _ _ ?_
 refine wp_seq_k ?_; intro K585 hK585
 refine wp_region_lit ?_
 revert aa
 refine qM hR ?_
 refine qA hR rfl (fun _ hS => Yld.nilCheck hS rfl) ?_
 refine qA hR rfl (fun _ hS => Yld.fieldAddr hS rfl 1 Tryz.underlying129 rfl rfl info126 (by decide)) ?_
 refine qA hR rfl (fun _ hS => Yld.load1 hS rfl Tryz.underlying126 rfl rdQ) ?_
 refine qM hR ?_
 refine qA hR rfl (fun _ hS => ilQ 1 (s) Tryz.underlying126 info25) ?_
 refine qA hR rfl (fun _ hS => Yld.load1 hS rfl Tryz.underlying25 rfl (Rd.rec0 (k := s) (xs := us) (v := .int .u32 a) pkQ (by intro _; rfl) hux (by rw [hue]; rfl))) ?_
 refine qN hR ?_
 intro aa hS
 refine wpList_nil ?_
 refine hK585 _ _ ?_
 refine wp_seq_k ?_; intro K586 hK586
 refine wp_region_lit ?_
 revert aa
 refine qM hR ?_
 refine qA hR rfl (fun _ hS => Yld.nilCheck hS rfl) ?_
 refine qA hR rfl (fun _ hS => Yld.fieldAddr hS rfl 4 Tryz.underlying129 rfl rfl info123 (by decide)) ?_
 refine qA hR rfl (fun _ hS => Yld.load1 hS rfl Tryz.underlying123 rfl rdQ) ?_
 refine qM hR ?_
 intro aa hS
 refine sB (Bcall hS rfl Tryz.call103 (LOut_ok (x := (s : Int)) (hR.pk (r := linksA _ _ _ bl _ _ _) pkQ)) (by decide) ?_); clear hS; intro aa ww vv hS hp
 clear hR
 obtain ⟨rfl, hR⟩ := hp
 refine wpList_nil ?_
 refine hK586 _ _ ?_
 refine wp_seq_k ?_; intro K587 hK587
 refine wp_seq_k ?_; intro K588 hK588
 refine wp_region_lit ?_
 revert aa
 refine qM hR ?_
 refine qA hR rfl (fun _ hS => Yld.nilCheck hS rfl) ?_
 refine qA hR rfl (fun _ hS => Yld.fieldAddr hS rfl 4 Tryz.underlying129 rfl rfl info123 (by decide)) ?_
 refine qA hR rfl (fun _ hS => Yld.load1 hS rfl Tryz.underlying123 rfl rdQ) ?_
 refine qM hR ?_
 intro aa hS
 refine sB (Bcall hS rfl Tryz.call93 (LLen_ok (x := (q : Int)) (hR.pk (r := linksA _ _ _ bl _ _ _) pkQ)) (by decide) ?_); clear hS; intro aa ww vv hS hp
 clear hR
 obtain ⟨rfl, hR⟩ := hp
 rw [hol2] at hS
 revert aa
 refine qA hR rfl (fun _ hS => Yld.eql hS rfl rfl) ?_
 refine qB (t := 49) false rfl (by exact decide_eq_false (by omega)) ?_
 intro aa hS
 refine wpList_nil ?_
 refine hK588 _ _ ?_
 refine condF hS rfl ?_
 refine wp_skip ?_
 refine hK587 _ _ ?_
 refine wp_seq_k ?_; intro K589 hK589
 refine wp_region_lit ?_
 revert aa
 refine qM hR ?_
 refine qN hR ?_
 refine qN hR ?_
 intro aa hS
 refine wpList_nil ?_
 refine hK589 _ _ ?_
 refine wp_ret ?_
 repeat first | with_reducible refine thenR ?_ | with_reducible refine blockR ?_ | with_reducible refine scopeR ?_
 refine retN (fn := Tryz.f95) (e := .ret) (.inl rfl) Tryz.results95 hS hR ⟨_, .cons (.tmp rfl) (.cons (.tmp rfl) (.nil)), rfl, ?_⟩
 try dsimp only [lay, List.set] at hR
 rw [remO_more he]
 exact ⟨rfl, Sep.sourceI (t := ss) (b := b) (T := { O := T.O.filter fun p => decide (p.2 ≠ s), R := T.R, A := T.A }) hX hS4 hl6 (hR.sub exQ)⟩
set_option maxHeartbeats 1000000 in
theorem soClose_last {T : So} {S lim b : Nat} {l : List HP} {w : World} {s : Nat} (hs : s < S) {a : Int} (hq : ofO T.O (s : Int) = some a) (he : slO (T.O.filter fun p => decide (p.2 ≠ s)) a = []) (hR : Sep (sourceA ss b S lim T :: l) w) : CallR Tryz.prog 95 [.pointer (some ⟨b, 0, none⟩), .int .i64 (s : Int)] w (fun v w' => v = .tuple [.int .u32 a, .int .i64 0].toArray ∧ Sep (sourceA ss b S lim (remO T a s) :: l) w') := by
 refine enter Tryz.func95 rfl Tryz.ntmps95 (Nat.le_of_ble_eq_true rfl) ?_; intro aa hS
 obtain ⟨bo, ba, bl, r, c, L, us, hT, hS4, hl6, hR⟩ := (hR.pk (r := sourceA _ b _ _ _) pkQ).sourceE
 dsimp only at hR
 have hSF := hT.sf
 have hul := hT.len
 have hwl := (hR.pk (r := linksA _ _ _ bl _ _ _) pkQ).linksWL
 obtain ⟨s2, q, hss, hsS, hsm, hsr, hqS, hrc, hof, hol, hsl, hua⟩ := hT.ofSome hwl hq
 obtain rfl : s = s2 := by omega
 obtain ⟨hux, hue⟩ := List.getElem?_eq_some_iff.1 hua
 have hX := hT.rem hwl hsm hsr
 have hol2 := hT.outLen hwl hsm hsr
 obtain ⟨u, hu⟩ := hSF.atr hsr
 have hwa := hSF.wf _ hsr
 have hix := rem_ix hSF hsr
 rw [he] at hol2
 rw [remO_last hrc he] at hX
 refine wp_seq_k ?_; intro K590 hK590
 refine wp_region_lit ?_
 revert aa
 refine qN hR ?_
 refine qN hR ?_
 intro aa hS
 refine wpList_nil ?_
 refine hK590 _ _ ?_
 refine wp_seq_k ?_; intro K591 hK591
 refine wp_block ?_
 refine wp_seq_k ?_; intro K592 hK592
 refine wp_region_lit ?_
 revert aa
 refine qM hR ?_
 intro aa hS
 refine sB (Bcall hS rfl Tryz.call77 (sonone_ok (hR.pk (r := blk b _ _) pkQ)) (by decide) ?_); clear hS; intro aa ww vv hS hp
 clear hR
 obtain ⟨rfl, hR⟩ := hp
 revert aa
 refine qN hR ?_
 intro aa hS
 refine wpList_nil ?_
 refine hK592 _ _ ?_
 refine condF hS rfl ?_
 refine wp_seq_k ?_; intro K593 hK593
 refine wp_region_lit ?_
 revert aa
 refine qM hR ?_
 refine qM hR ?_
 intro aa hS
 refine sB (Bcall hS rfl Tryz.call124 (soright_ok (i := (s : Int)) (hR.pk (r := blk b _ _) pkQ)) (by decide) ?_); clear hS; intro aa ww vv hS hp
 clear hR
 obtain ⟨rfl, hR⟩ := hp
 revert aa
 refine qB (t := 17) true rfl (by exact decide_eq_true (by omega)) ?_
 refine qA hR rfl (fun _ hS => Yld.not hS rfl) ?_
 refine qN hR ?_
 intro aa hS
 refine wpList_nil ?_
 refine hK593 _ _ ?_
 refine condF hS rfl ?_
 refine wp_skip ?_
 refine hK591 _ _ ?_
 refine wp_seq_k ?_; intro K594 hK594
 refine wp_region_lit ?_
 revert aa
 refine qM hR ?_
 refine qA hR rfl (fun _ hS => Yld.nilCheck hS rfl) ?_
 refine qA hR rfl (fun _ hS => Yld.fieldAddr hS rfl 4 Tryz.underlying129 rfl rfl info123 (by decide)) ?_
 refine qA hR rfl (fun _ hS => Yld.load1 hS rfl Tryz.underlying123 rfl rdQ) ?_
 refine qM hR ?_
 intro aa hS
 refine sB (Bcall hS rfl Tryz.call76 (LOf_ok (x := (s : Int)) (hR.pk (r := linksA _ _ _ bl _ _ _) pkQ)) (by decide) ?_); clear hS; intro aa ww vv hS hp
 clear hR
 obtain ⟨rfl, hR⟩ := hp
 rw [hof] at hS
 dsimp only [optV, Option.getD, Option.isSome] at hS
 revert aa
 refine qM hR ?_
 refine qX hR ?_
 refine qX hR ?_
 refine qB (t := 27) true rfl (by rfl) ?_
 refine qN hR ?_
 refine qN hR ?_
 intro aa hS
 refine wpList_nil ?_
 refine hK594 _ _ ?_
 refine wp_seq_k ?_; intro K595 hK595
 refine wp_seq_k ?_; intro K596 hK596
 refine wp_region_lit ?_
 revert aa
 refine qM hR ?_
 refine qA hR rfl (fun _ hS => Yld.not hS rfl) ?_
 intro aa hS
 refine wpList_nil ?_
 refine hK596 _ _ ?_
 refine condF hS rfl ?_
 refine wp_skip ?_
 refine hK595 _ _ ?_
 refine wp_seq_k ?_; intro K597 hK597
 refine wp_region_lit ?_
 revert aa
 refine qM hR ?_
 refine qA hR rfl (fun _ hS => Yld.nilCheck hS rfl) ?_
 refine qA hR rfl (fun _ hS => Yld.fieldAddr hS rfl 1 Tryz.underlying129 rfl rfl info126 (by decide)) ?_
 refine qA hR rfl (fun _ hS => Yld.load1 hS rfl Tryz.underlying126 rfl rdQ) ?_
 refine qM hR ?_
 refine qA hR rfl (fun _ hS => ilQ 1 (s) Tryz.underlying126 info25) ?_
 refine qA hR rfl (fun _ hS => Yld.load1 hS rfl Tryz.underlying25 rfl (Rd.rec0 (k := s) (xs := us) (v := .int .u32 a) pkQ (by intro _; rfl) hux (by rw [hue]; rfl))) ?_
 refine qN hR ?_
 intro aa hS
 refine wpList_nil ?_
 refine hK597 _ _ ?_
 refine wp_seq_k ?_; intro K598 hK598
 refine wp_region_lit ?_
 revert aa
 refine qM hR ?_
 refine qA hR rfl (fun _ hS => Yld.nilCheck hS rfl) ?_
 refine qA hR rfl (fun _ hS => Yld.fieldAddr hS rfl 4 Tryz.underlying129 rfl rfl info123 (by decide)) ?_
 refine qA hR rfl (fun _ hS => Yld.load1 hS rfl Tryz.underlying123 rfl rdQ) ?_
 refine qM hR ?_
 intro aa hS
 refine sB (Bcall hS rfl Tryz.call103 (LOut_ok (x := (s : Int)) (hR.pk (r := linksA _ _ _ bl _ _ _) pkQ)) (by decide) ?_); clear hS; intro aa ww vv hS hp
 clear hR
 obtain ⟨rfl, hR⟩ := hp
 refine wpList_nil ?_
 refine hK598 _ _ ?_
 refine wp_seq_k ?_; intro K599 hK599
 refine wp_seq_k ?_; intro K600 hK600
 refine wp_region_lit ?_
 revert aa
 refine qM hR ?_
 refine qA hR rfl (fun _ hS => Yld.nilCheck hS rfl) ?_
 refine qA hR rfl (fun _ hS => Yld.fieldAddr hS rfl 4 Tryz.underlying129 rfl rfl info123 (by decide)) ?_
 refine qA hR rfl (fun _ hS => Yld.load1 hS rfl Tryz.underlying123 rfl rdQ) ?_
 refine qM hR ?_
 intro aa hS
 refine sB (Bcall hS rfl Tryz.call93 (LLen_ok (x := (q : Int)) (hR.pk (r := linksA _ _ _ bl _ _ _) pkQ)) (by decide) ?_); clear hS; intro aa ww vv hS hp
 clear hR
 obtain ⟨rfl, hR⟩ := hp
 rw [hol2] at hS
 revert aa
 refine qA hR rfl (fun _ hS => Yld.eql hS rfl rfl) ?_
 refine qB (t := 49) true rfl (by exact decide_eq_true rfl) ?_
 intro aa hS
 refine wpList_nil ?_
 refine hK600 _ _ ?_
 refine condT hS rfl ?_
 refine wp_seq_k ?_; intro K601 hK601
 refine wp_region_lit ?_
 revert aa
 refine qM hR ?_
 refine qA hR rfl (fun _ hS => Yld.nilCheck hS rfl) ?_
 refine qA hR rfl (fun _ hS => Yld.fieldAddr hS rfl 3 Tryz.underlying129 rfl rfl info52 (by decide)) ?_
 refine qA hR rfl (fun _ hS => Yld.load1 hS rfl Tryz.underlying52 rfl rdQ) ?_
 refine qM hR ?_
 intro aa hS
 refine sB (Bcall hS rfl Tryz.call74 (At_okA (s := (q : Int)) (hR.pk (r := arena _ _ ba _) pkQ)) (by decide) ?_); clear hS; intro aa ww vv hS hp
 clear hR
 obtain ⟨rfl, hR⟩ := hp
 rw [atV_some hu] at hS
 revert aa
 refine qM hR ?_
 refine qX hR ?_
 refine qX hR ?_
 intro aa hS
 refine sB (Balloc hS hR info120 (by rfl) (by rfl) (by decide) ?_); clear hS hR; intro aa ww bb9 hS hR
 refine sB (Bstore hS hR rfl rfl (by rfl) info120 (by rfl) pkQ (by rfl) (Nat.le_of_ble_eq_true rfl) ?_); clear hR; intro ww hR
 revert aa
 refine qN hR ?_
 intro aa hS
 refine wpList_nil ?_
 refine hK601 _ _ ?_
 refine wp_seq_k ?_; intro K602 hK602
 refine drawn krQ hR (Ex.of_pk (r := arena _ _ ba _) pkQ) ?_; clear hR; intro ww hR hR0
 revert aa
 refine eA 0 rfl krQ (fun _ _ _ h => h) hR0 rfl (fun _ hS => Yld.move hS rfl) ?_
 refine eA 1 rfl krQ (fun _ _ _ h => h) hR0 rfl (fun _ hS => Yld.nilCheck hS rfl) ?_
 refine eA 2 rfl krQ (fun _ _ _ h => h) hR0 rfl (fun _ hS => Yld.fieldAddr hS rfl 3 Tryz.underlying129 rfl rfl info52 (by decide)) ?_
 refine eA 3 rfl krQ (fun _ _ _ h => h) hR0 rfl (fun _ hS => Yld.load1 hS rfl Tryz.underlying52 rfl rdQ) ?_
 intro aa hS
 refine dA 4 rfl krQ krQ krQ (fun _ _ _ h => h) hS hR0 (Yld.loadAgg hS rfl Tryz.underlying120 rfl info120 rdsQ2 (by rfl)) (by decide) ?_; clear hS; intro aa hS
 refine dOne (i := 5) krQ ?_
 refine dop rfl (Bcall hS rfl Tryz.call96 (Give_okA (s := (q : Int)) (u := u) (hR.pk (r := arena _ _ ba _) pkQ)) (by decide) ?_); clear hS; intro aa ww vv hS hp
 clear hR hR0
 obtain ⟨rfl, hR⟩ := hp
 rw [Ar.giveH_yes hu] at hR; rw [show T.A.giveE (q : Int) u = 0 from if_pos hu] at hS
 refine dnext (hR.sub exQ) ?_; intro hR0
 refine wpAnyH_done krQ ?_ _; clear hR0
 refine hK602 _ _ ?_
 refine drawn krQ hR (Ex.of_pk (r := trieA _ _ _ bo _ _) pkQ) ?_; clear hR; intro ww hR hR0
 revert aa
 refine eA 0 rfl krQ (fun _ _ _ h => h) hR0 rfl (fun _ hS => Yld.move hS rfl) ?_
 refine eA 1 rfl krQ (fun _ _ _ h => h) hR0 rfl (fun _ hS => Yld.nilCheck hS rfl) ?_
 refine eA 2 rfl krQ (fun _ _ _ h => h) hR0 rfl (fun _ hS => Yld.fieldAddr hS rfl 2 Tryz.underlying129 rfl rfl info127 (by decide)) ?_
 refine eA 3 rfl krQ (fun _ _ _ h => h) hR0 rfl (fun _ hS => Yld.load1 hS rfl Tryz.underlying127 rfl rdQ) ?_
 refine eA 4 rfl krQ (fun _ _ _ h => h) hR0 rfl (fun _ hS => Yld.move hS rfl) ?_
 intro aa hS
 refine dOne (i := 5) krQ ?_
 refine dop rfl (Bcall hS rfl Tryz.call100 (sokey_ok hR) (by decide) ?_); clear hS; intro aa ww vv hS hp
 clear hR hR0
 obtain ⟨rfl, hR⟩ := hp
 refine dnext (hR.sub exQ) ?_; intro hR0
 refine dOne (i := 6) krQ ?_
 refine dop rfl (Bcall hS rfl Tryz.call125 (Out_ok (k := kA a) (hR.pk (r := trieA _ _ _ bo _ _) pkQ) (kA_wf hwa)) (by decide) ?_); clear hS; intro aa ww vv hS hp
 clear hR hR0
 obtain ⟨rfl, hR⟩ := hp
 rw [hix] at hR
 refine dnext (hR.sub exQ) ?_; intro hR0
 refine wpAnyH_done krQ ?_ _; clear hR0
 refine hK599 _ _ ?_
 refine wp_seq_k ?_; intro K603 hK603
 refine wp_region_lit ?_
 revert aa
 refine qM hR ?_
 refine qN hR ?_
 refine qN hR ?_
 intro aa hS
 refine wpList_nil ?_
 refine hK603 _ _ ?_
 refine wp_ret ?_
 repeat first | with_reducible refine thenR ?_ | with_reducible refine blockR ?_ | with_reducible refine scopeR ?_
 refine retN (fn := Tryz.f95) (e := .ret) (.inl rfl) Tryz.results95 hS hR ⟨_, .cons (.tmp rfl) (.cons (.tmp rfl) (.nil)), rfl, ?_⟩
 try dsimp only [lay, List.set] at hR
 rw [remO_last hrc he]
 exact ⟨rfl, Sep.sourceI (t := ss) (b := b) (T := { O := T.O.filter fun p => decide (p.2 ≠ s), R := T.R.filter fun p => decide (p.1 ≠ a), A := T.A.give q }) hX hS4 hl6 (hR.sub exQ)⟩
theorem soClose_ok {T : So} {S lim b : Nat} {l : List HP} {w : World} {x : Int} (hR : Sep (sourceA ss b S lim T :: l) w) : CallR Tryz.prog 95 [.pointer (some ⟨b, 0, none⟩), .int .i64 x] w (fun v w' => v = .tuple [.int .u32 ((ofO T.O x).getD 0), .int .i64 (clsE S T x)].toArray ∧ Sep (sourceA ss b S lim (clsN T x) :: l) w') := by
 obtain ⟨bo, ba, bl, r, c, L, us, hT, hS4, hl6, hR⟩ := hR.sourceE
 have hSF := hT.sf
 replace hR := Sep.sourceI hT hS4 hl6 hR
 by_cases hx : 0 ≤ x ∧ x < S
 ·
  obtain ⟨s, rfl⟩ : ∃ s : Nat, x = s := ⟨x.toNat, by omega⟩
  have hs : s < S := by omega
  cases hq : ofO T.O (s : Int) with
  | none =>
   rw [(cls_none hx hq).1, (cls_none hx hq).2]
   exact soClose_none hs hq hR
  | some a =>
   rw [(cls_ok hs hq).1, (cls_ok hs hq).2]
   by_cases he : slO (T.O.filter fun p => decide (p.2 ≠ s)) a = []
   ·
    exact soClose_last hs hq he hR
   ·
    exact soClose_more hs hq he hR
 ·
  rw [(hSF.cls_bad hx).1, (hSF.cls_bad hx).2, hSF.off hx]
  exact soClose_bad hx hR
set_option maxHeartbeats 1000000 in
theorem soNew_ok {S lim : Nat} {l : List HP} {w : World} (hR : Sep l w) (h1 : 1 ≤ S) (h2 : S ≤ 4096) (h3 : 1 ≤ lim) (h4 : lim ≤ 64) : CallR Tryz.prog 68 [.int .i64 (S : Int), .int .i64 (lim : Int)] w (fun v w' => ∃ b, v = .tuple [.pointer (some ⟨b, 0, none⟩), .int .i64 0].toArray ∧ Sep (sourceA ss b S lim { O := [], R := [], A := Ar.new S } :: l) w') := by
 refine enter Tryz.func68 rfl Tryz.ntmps68 (Nat.le_of_ble_eq_true rfl) ?_; intro aa hS
 refine wp_seq_k ?_; intro K611 hK611
 refine wp_region_lit ?_
 revert aa
 refine qN hR ?_
 refine qN hR ?_
 intro aa hS
 refine wpList_nil ?_
 refine hK611 _ _ ?_
 refine wp_seq_k ?_; intro K612 hK612
 refine wp_seq_k ?_; intro K613 hK613
 refine wp_region_lit ?_
 revert aa
 refine qM hR ?_
 refine qA hR rfl (fun _ hS => Yld.lss hS rfl rfl) ?_
 refine qB (t := 8) false rfl (by exact decide_eq_false (by omega)) ?_
 refine qM hR ?_
 refine qMg hR ?_
 refine qAg hR rfl rfl rfl (fun _ hS => Yld.gtr hS rfl rfl) ?_
 refine qB (t := 11) false rfl (by exact decide_eq_false (by omega)) ?_
 refine qA hR rfl (fun _ hS => Yld.pickF hS rfl rfl) ?_
 refine qM hR ?_
 refine qMg hR ?_
 refine qAg hR rfl rfl rfl (fun _ hS => Yld.lss hS rfl rfl) ?_
 refine qB (t := 15) false rfl (by exact decide_eq_false (by omega)) ?_
 refine qA hR rfl (fun _ hS => Yld.pickF hS rfl rfl) ?_
 refine qM hR ?_
 refine qMg hR ?_
 refine qAg hR rfl rfl rfl (fun _ hS => Yld.gtr hS rfl rfl) ?_
 refine qB (t := 19) false rfl (by exact decide_eq_false (by omega)) ?_
 refine qA hR rfl (fun _ hS => Yld.pickF hS rfl rfl) ?_
 intro aa hS
 refine wpList_nil ?_
 refine hK613 _ _ ?_
 refine condF hS rfl ?_
 refine wp_skip ?_
 refine hK612 _ _ ?_
 refine wp_seq_k ?_; intro K614 hK614
 refine wp_region_lit ?_
 revert aa
 refine qM hR ?_
 refine qM hR ?_
 intro aa hS
 refine sB (Bmake (zc := [.int .u32 0]) hS hR rfl rfl Tryz.underlying126 info25 rfl (by rfl) (by rfl) (by decide) (by omega) (by show ((4 : Nat) : Int) * _ ≤ _; omega) (by omega) (by decide) ?_); clear hS hR; intro aa ww bb23 hS hR
 rw [show ((S : Int)).toNat = S from Int.toNat_natCast S] at hS hR
 replace hR := hR.pk (r := blk bb23 _ _) pkQ
 rw [zeros_flat (zc := [.int .u32 0]) (enc := eUi) (0 : Int) S rfl] at hR
 replace hR := Sep.toRecs (m := S) (sz := 1) (enc := eUi) (List.replicate S 0) hR rfl (by intro _; rfl) (by rw [List.length_replicate])
 refine sA hS hR (Yld.build hS rfl (bld129_0_1 _ _ _ _)) (by decide) ?_; clear hS; intro aa hS
 refine sB (Bbox hS hR rfl (by rfl) (by decide) ?_); clear hS hR; intro aa ww bb25 hS hR
 revert aa
 refine qN hR ?_
 intro aa hS
 refine wpList_nil ?_
 refine hK614 _ _ ?_
 refine wp_seq_k ?_; intro K615 hK615
 refine wp_region_lit ?_
 revert aa
 refine qM hR ?_
 refine qM hR ?_
 intro aa hS
 refine sB (Bcall hS rfl Tryz.call107 (TNew_ok (n := (S : Int)) hR (by omega)) (by decide) ?_); clear hS; intro aa ww vv hS hp
 clear hR
 obtain ⟨bo, rfl, hR⟩ := hp
 change Sep (trieA _ _ _ bo (ixK []) _ :: _) _ at hR
 revert aa
 refine qM hR ?_
 refine qX hR ?_
 refine qX hR ?_
 refine qA hR rfl (fun _ hS => Yld.nilCheck hS rfl) ?_
 refine qA hR rfl (fun _ hS => Yld.fieldAddr hS rfl 2 Tryz.underlying129 rfl rfl info127 (by decide)) ?_
 intro aa hS
 refine sB (Bstore hS hR rfl rfl (by rfl) info127 (by rfl) pkQ (by rfl) (Nat.le_of_ble_eq_true rfl) ?_); clear hR; intro ww hR
 refine wpList_nil ?_
 refine hK615 _ _ ?_
 refine wp_seq_k ?_; intro K616 hK616
 refine wp_region_lit ?_
 revert aa
 refine qM hR ?_
 refine qM hR ?_
 intro aa hS
 refine sB (Bcall hS rfl Tryz.call70 (New_ok (n := (S : Int)) hR (by omega)) (by decide) ?_); clear hS; intro aa ww vv hS hp
 clear hR
 obtain ⟨ba, rfl, hR⟩ := hp
 rw [Int.toNat_natCast] at hR
 revert aa
 refine qM hR ?_
 refine qX hR ?_
 refine qX hR ?_
 refine qA hR rfl (fun _ hS => Yld.nilCheck hS rfl) ?_
 refine qA hR rfl (fun _ hS => Yld.fieldAddr hS rfl 3 Tryz.underlying129 rfl rfl info52 (by decide)) ?_
 intro aa hS
 refine sB (Bstore hS hR rfl rfl (by rfl) info52 (by rfl) pkQ (by rfl) (Nat.le_of_ble_eq_true rfl) ?_); clear hR; intro ww hR
 refine wpList_nil ?_
 refine hK616 _ _ ?_
 refine wp_seq_k ?_; intro K617 hK617
 refine wp_region_lit ?_
 revert aa
 refine qM hR ?_
 refine qM hR ?_
 refine qM hR ?_
 intro aa hS
 refine sB (Bcall hS rfl Tryz.call108 (LNew_ok (S := S) (n := S) hR (by omega) (by omega) (by omega) (by omega)) (by decide) ?_); clear hS; intro aa ww vv hS hp
 clear hR
 obtain ⟨bl, rfl, hR⟩ := hp
 revert aa
 refine qM hR ?_
 refine qX hR ?_
 refine qX hR ?_
 refine qA hR rfl (fun _ hS => Yld.nilCheck hS rfl) ?_
 refine qA hR rfl (fun _ hS => Yld.fieldAddr hS rfl 4 Tryz.underlying129 rfl rfl info123 (by decide)) ?_
 intro aa hS
 refine sB (Bstore hS hR rfl rfl (by rfl) info123 (by rfl) pkQ (by rfl) (Nat.le_of_ble_eq_true rfl) ?_); clear hR; intro ww hR
 refine wpList_nil ?_
 refine hK617 _ _ ?_
 refine wp_seq_k ?_; intro K618 hK618
 refine wp_region_lit ?_
 revert aa
 refine qM hR ?_
 refine qN hR ?_
 refine qN hR ?_
 intro aa hS
 refine wpList_nil ?_
 refine hK618 _ _ ?_
 refine wp_ret ?_
 repeat first | with_reducible refine thenR ?_ | with_reducible refine blockR ?_ | with_reducible refine scopeR ?_
 refine retN (fn := Tryz.f68) (e := .ret) (.inl rfl) Tryz.results68 hS hR ⟨_, .cons (.tmp rfl) (.cons (.tmp rfl) (.nil)), rfl, ?_⟩
 try dsimp only [lay, List.set] at hR
 have h9 : Sep (sourceA ss bb25 S lim { O := [], R := [], A := Ar.new S } :: l) _ := Sep.sourceI (t := ss) (b := bb25) (T := { O := [], R := [], A := Ar.new S }) (SI.new h1 h2) h2 h4 (hR.sub exQ)
 exact ⟨bb25, rfl, h9⟩
end Go.Proofs.YtkhdejjompbklaaGreat.Sx
