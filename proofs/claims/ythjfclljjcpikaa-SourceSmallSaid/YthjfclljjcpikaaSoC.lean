/-
 
-/
import Derived.Test.YthjfclljjcpikaaSoB
namespace Go.Proofs.Ythjfclljjcpikaa.Sx
open Go
set_option linter.unusedVariables false
set_option linter.unusedSimpArgs false

theorem bld51_0_1 (x0 : Int) (x1_a : Option Addr) (x1_n x1_c : Nat) (w : World) : (Instr.build 51 [(0, .int .i64 x0), (1, .slice x1_a x1_n x1_c)].toArray).run Try.prog w = .ok (.agg [.int .i64 x0, .slice x1_a x1_n x1_c, .pointer none, .pointer none, .pointer none].toArray) w := by kernel_rfl
theorem bls46_1_0 (x0 : Int) (w : World) : (Instr.buildSlice 46 1 [(0, .int .u32 x0)].toArray).run Try.prog w = .ok (.slice (some ⟨w.heap.size, 0, none⟩) 1 1) (w.alloc (.cells ([.int .u32 x0] : List Value).toArray 28)) := by kernel_rfl

set_option maxRecDepth 20000 in
theorem soClose_bad {T : So} {S lim b : Nat} {l : List HP} {w : World} {x : Int} (hx : ¬ (0 ≤ x ∧ x < S)) (hR : Sep (sourceA ss b S lim T :: l) w) : CallR Try.prog 20 [.pointer (some ⟨b, 0, none⟩), .int .i64 x] w (fun v w' => v = .tuple [.int .u32 0, .int .i64 2].toArray ∧ Sep (sourceA ss b S lim T :: l) w') := by
 refine enter Try.func20 rfl Try.ntmps20 (Nat.le_of_ble_eq_true rfl) ?_; intro aa hS
 obtain ⟨bo, ba, bl, r, c, L, us, hT, hS4, hl6, hR⟩ := (hR.pk (r := sourceA _ b _ _ _) pkQ).sourceE
 dsimp only at hR
 have hSF := hT.sf
 have hul := hT.len
 have hwl := (hR.pk (r := linksA _ _ _ bl _ _ _) pkQ).linksWL
 refine wp_seq_k ?_; intro K429 hK429
 refine wp_region_lit ?_
 revert aa
 refine qN hR ?_
 refine qN hR ?_
 intro aa hS
 refine wpList_nil ?_
 refine hK429 _ _ ?_
 refine wp_seq_k ?_; intro K430 hK430
 refine wp_block ?_
 refine wp_seq_k ?_; intro K431 hK431
 refine wp_region_lit ?_
 revert aa
 refine qM hR ?_
 intro aa hS
 refine sB (Bcall hS rfl Try.call31 (sonone_ok (hR.pk (r := blk b _ _) pkQ)) (by decide) ?_); clear hS; intro aa ww vv hS hp
 clear hR
 obtain ⟨rfl, hR⟩ := hp
 revert aa
 refine qN hR ?_
 intro aa hS
 refine wpList_nil ?_
 refine hK431 _ _ ?_
 refine condF hS rfl ?_
 refine wp_seq_k ?_; intro K432 hK432
 refine wp_region_lit ?_
 revert aa
 refine qM hR ?_
 refine qM hR ?_
 intro aa hS
 refine sB (Bcall hS rfl Try.call42 (soright_ok (i := x) (hR.pk (r := blk b _ _) pkQ)) (by decide) ?_); clear hS; intro aa ww vv hS hp
 clear hR
 obtain ⟨rfl, hR⟩ := hp
 revert aa
 refine qB (t := 17) false rfl (by exact decide_eq_false hx) ?_
 refine qA hR rfl (fun _ hS => Yld.not hS rfl) ?_
 refine qN hR ?_
 intro aa hS
 refine wpList_nil ?_
 refine hK432 _ _ ?_
 refine condT hS rfl ?_
 refine wp_seq_k ?_; intro K433 hK433
 refine wp_region_lit ?_
 revert aa
 refine qN hR ?_
 refine qN hR ?_
 intro aa hS
 refine wpList_nil ?_
 refine hK433 _ _ ?_
 refine wp_ret ?_
 repeat first | with_reducible refine thenR ?_ | with_reducible refine blockR ?_ | with_reducible refine scopeR ?_
 refine retN (fn := Try.f20) (e := .ret) (.inl rfl) Try.results20 hS hR ⟨_, .cons (.tmp rfl) (.cons (.tmp rfl) (.nil)), rfl, ?_⟩
 try dsimp only [lay, List.set] at hR
 exact ⟨rfl, Sep.sourceI (t := ss) (b := b) (T := T) hT hS4 hl6 (hR.sub exQ)⟩
set_option maxRecDepth 20000 in
theorem soClose_none {T : So} {S lim b : Nat} {l : List HP} {w : World} {s : Nat} (hs : s < S) (hn : ofO T.O (s : Int) = none)  (hR : Sep (sourceA ss b S lim T :: l) w) : CallR Try.prog 20 [.pointer (some ⟨b, 0, none⟩), .int .i64 (s : Int)] w (fun v w' => v = .tuple [.int .u32 0, .int .i64 6].toArray ∧ Sep (sourceA ss b S lim T :: l) w') := by
 refine enter Try.func20 rfl Try.ntmps20 (Nat.le_of_ble_eq_true rfl) ?_; intro aa hS
 obtain ⟨bo, ba, bl, r, c, L, us, hT, hS4, hl6, hR⟩ := (hR.pk (r := sourceA _ b _ _ _) pkQ).sourceE
 dsimp only at hR
 have hSF := hT.sf
 have hul := hT.len
 have hwl := (hR.pk (r := linksA _ _ _ bl _ _ _) pkQ).linksWL
 refine wp_seq_k ?_; intro K434 hK434
 refine wp_region_lit ?_
 revert aa
 refine qN hR ?_
 refine qN hR ?_
 intro aa hS
 refine wpList_nil ?_
 refine hK434 _ _ ?_
 refine wp_seq_k ?_; intro K435 hK435
 refine wp_block ?_
 refine wp_seq_k ?_; intro K436 hK436
 refine wp_region_lit ?_
 revert aa
 refine qM hR ?_
 intro aa hS
 refine sB (Bcall hS rfl Try.call31 (sonone_ok (hR.pk (r := blk b _ _) pkQ)) (by decide) ?_); clear hS; intro aa ww vv hS hp
 clear hR
 obtain ⟨rfl, hR⟩ := hp
 revert aa
 refine qN hR ?_
 intro aa hS
 refine wpList_nil ?_
 refine hK436 _ _ ?_
 refine condF hS rfl ?_
 refine wp_seq_k ?_; intro K437 hK437
 refine wp_region_lit ?_
 revert aa
 refine qM hR ?_
 refine qM hR ?_
 intro aa hS
 refine sB (Bcall hS rfl Try.call42 (soright_ok (i := (s : Int)) (hR.pk (r := blk b _ _) pkQ)) (by decide) ?_); clear hS; intro aa ww vv hS hp
 clear hR
 obtain ⟨rfl, hR⟩ := hp
 revert aa
 refine qB (t := 17) true rfl (by exact decide_eq_true (by omega)) ?_
 refine qA hR rfl (fun _ hS => Yld.not hS rfl) ?_
 refine qN hR ?_
 intro aa hS
 refine wpList_nil ?_
 refine hK437 _ _ ?_
 refine condF hS rfl ?_
 refine wp_skip ?_
 refine hK435 _ _ ?_
 refine wp_seq_k ?_; intro K438 hK438
 refine wp_region_lit ?_
 revert aa
 refine qM hR ?_
 refine qA hR rfl (fun _ hS => Yld.nilCheck hS rfl) ?_
 refine qA hR rfl (fun _ hS => Yld.fieldAddr hS rfl 4 Try.underlying51 rfl rfl info49 (by decide)) ?_
 refine qA hR rfl (fun _ hS => Yld.load1 hS rfl Try.underlying49 rfl rdQ) ?_
 refine qM hR ?_
 intro aa hS
 refine sB (Bcall hS rfl Try.call43 (LOf_ok (x := (s : Int)) (hR.pk (r := linksA _ _ _ bl _ _ _) pkQ)) (by decide) ?_); clear hS; intro aa ww vv hS hp
 clear hR
 obtain ⟨rfl, hR⟩ := hp
 rw [hT.ofNone hn] at hS
 dsimp only [optV, Option.getD, Option.isSome] at hS
 revert aa
 refine qM hR ?_
 refine qX hR ?_
 refine qX hR ?_
 refine qB (t := 27) false rfl (by rfl) ?_
 refine qN hR ?_
 refine qN hR ?_
 intro aa hS
 refine wpList_nil ?_
 refine hK438 _ _ ?_
 refine wp_seq_k ?_; intro K439 hK439
 refine wp_seq_k ?_; intro K440 hK440
 refine wp_region_lit ?_
 revert aa
 refine qM hR ?_
 refine qA hR rfl (fun _ hS => Yld.not hS rfl) ?_
 intro aa hS
 refine wpList_nil ?_
 refine hK440 _ _ ?_
 refine condT hS rfl ?_
 refine wp_seq_k ?_; intro K441 hK441
 refine wp_region_lit ?_
 revert aa
 refine qN hR ?_
 refine qN hR ?_
 intro aa hS
 refine wpList_nil ?_
 refine hK441 _ _ ?_
 refine wp_ret ?_
 repeat first | with_reducible refine thenR ?_ | with_reducible refine blockR ?_ | with_reducible refine scopeR ?_
 refine retN (fn := Try.f20) (e := .ret) (.inl rfl) Try.results20 hS hR ⟨_, .cons (.tmp rfl) (.cons (.tmp rfl) (.nil)), rfl, ?_⟩
 try dsimp only [lay, List.set] at hR
 exact ⟨rfl, Sep.sourceI (t := ss) (b := b) (T := T) hT hS4 hl6 (hR.sub exQ)⟩
set_option maxHeartbeats 1000000 in
set_option maxRecDepth 20000 in
theorem soClose_more {T : So} {S lim b : Nat} {l : List HP} {w : World} {s : Nat} (hs : s < S) {a : Int} (hq : ofO T.O (s : Int) = some a) (he : slO (T.O.filter fun p => decide (p.2 ≠ s)) a ≠ []) (hR : Sep (sourceA ss b S lim T :: l) w) : CallR Try.prog 20 [.pointer (some ⟨b, 0, none⟩), .int .i64 (s : Int)] w (fun v w' => v = .tuple [.int .u32 a, .int .i64 0].toArray ∧ Sep (sourceA ss b S lim (remO T a s) :: l) w') := by
 refine enter Try.func20 rfl Try.ntmps20 (Nat.le_of_ble_eq_true rfl) ?_; intro aa hS
 obtain ⟨bo, ba, bl, r, c, L, us, hT, hS4, hl6, hR⟩ := (hR.pk (r := sourceA _ b _ _ _) pkQ).sourceE
 dsimp only at hR
 have hSF := hT.sf
 have hul := hT.len
 have hwl := (hR.pk (r := linksA _ _ _ bl _ _ _) pkQ).linksWL
 obtain ⟨s2, q, hss, hsS, hsm, hsr, hqS, hrc, hof, hol, hsl, hua⟩ := hT.ofSome hwl hq
 obtain rfl : s = s2 := by omega
 obtain ⟨hux, hue⟩ := List.getElem?_eq_some_iff.1 hua
 have hX := hT.rem hwl hsm hsr
 have hol2 := hT.outLen hwl hsm hsr
 obtain ⟨u, hu⟩ := hSF.atr hsr
 have hpos := List.length_pos_iff.2 he
 rw [remO_more he] at hX
 refine wp_seq_k ?_; intro K442 hK442
 refine wp_region_lit ?_
 revert aa
 refine qN hR ?_
 refine qN hR ?_
 intro aa hS
 refine wpList_nil ?_
 refine hK442 _ _ ?_
 refine wp_seq_k ?_; intro K443 hK443
 refine wp_block ?_
 refine wp_seq_k ?_; intro K444 hK444
 refine wp_region_lit ?_
 revert aa
 refine qM hR ?_
 intro aa hS
 refine sB (Bcall hS rfl Try.call31 (sonone_ok (hR.pk (r := blk b _ _) pkQ)) (by decide) ?_); clear hS; intro aa ww vv hS hp
 clear hR
 obtain ⟨rfl, hR⟩ := hp
 revert aa
 refine qN hR ?_
 intro aa hS
 refine wpList_nil ?_
 refine hK444 _ _ ?_
 refine condF hS rfl ?_
 refine wp_seq_k ?_; intro K445 hK445
 refine wp_region_lit ?_
 revert aa
 refine qM hR ?_
 refine qM hR ?_
 intro aa hS
 refine sB (Bcall hS rfl Try.call42 (soright_ok (i := (s : Int)) (hR.pk (r := blk b _ _) pkQ)) (by decide) ?_); clear hS; intro aa ww vv hS hp
 clear hR
 obtain ⟨rfl, hR⟩ := hp
 revert aa
 refine qB (t := 17) true rfl (by exact decide_eq_true (by omega)) ?_
 refine qA hR rfl (fun _ hS => Yld.not hS rfl) ?_
 refine qN hR ?_
 intro aa hS
 refine wpList_nil ?_
 refine hK445 _ _ ?_
 refine condF hS rfl ?_
 refine wp_skip ?_
 refine hK443 _ _ ?_
 refine wp_seq_k ?_; intro K446 hK446
 refine wp_region_lit ?_
 revert aa
 refine qM hR ?_
 refine qA hR rfl (fun _ hS => Yld.nilCheck hS rfl) ?_
 refine qA hR rfl (fun _ hS => Yld.fieldAddr hS rfl 4 Try.underlying51 rfl rfl info49 (by decide)) ?_
 refine qA hR rfl (fun _ hS => Yld.load1 hS rfl Try.underlying49 rfl rdQ) ?_
 refine qM hR ?_
 intro aa hS
 refine sB (Bcall hS rfl Try.call43 (LOf_ok (x := (s : Int)) (hR.pk (r := linksA _ _ _ bl _ _ _) pkQ)) (by decide) ?_); clear hS; intro aa ww vv hS hp
 clear hR
 obtain ⟨rfl, hR⟩ := hp
 rw [hof] at hS
 dsimp only [optV, Option.getD, Option.isSome] at hS
 revert aa
 refine qM hR ?_
 refine qX hR ?_
 refine qX hR ?_
 refine qB (t := 27) true rfl (by rfl) ?_
 refine qN hR ?_
 refine qN hR ?_
 intro aa hS
 refine wpList_nil ?_
 refine hK446 _ _ ?_
 refine wp_seq_k ?_; intro K447 hK447
 refine wp_seq_k ?_; intro K448 hK448
 refine wp_region_lit ?_
 revert aa
 refine qM hR ?_
 refine qA hR rfl (fun _ hS => Yld.not hS rfl) ?_
 intro aa hS
 refine wpList_nil ?_
 refine hK448 _ _ ?_
 refine condF hS rfl ?_
 refine wp_skip ?_
 refine hK447 _ _ ?_
 refine wp_seq_k ?_; intro K449 hK449
 refine wp_region_lit ?_
 revert aa
 refine qM hR ?_
 refine qA hR rfl (fun _ hS => Yld.nilCheck hS rfl) ?_
 refine qA hR rfl (fun _ hS => Yld.fieldAddr hS rfl 1 Try.underlying51 rfl rfl info46 (by decide)) ?_
 refine qA hR rfl (fun _ hS => Yld.load1 hS rfl Try.underlying46 rfl rdQ) ?_
 refine qM hR ?_
 refine qA hR rfl (fun _ hS => ilQ 1 (s) Try.underlying46 info28) ?_
 refine qA hR rfl (fun _ hS => Yld.load1 hS rfl Try.underlying28 rfl (Rd.rec0 (k := s) (xs := us) (v := .int .u32 a) pkQ (by intro _; rfl) hux (by rw [hue]; rfl))) ?_
 refine qN hR ?_
 intro aa hS
 refine wpList_nil ?_
 refine hK449 _ _ ?_
 refine wp_seq_k ?_; intro K450 hK450
 refine wp_region_lit ?_
 revert aa
 refine qM hR ?_
 refine qA hR rfl (fun _ hS => Yld.nilCheck hS rfl) ?_
 refine qA hR rfl (fun _ hS => Yld.fieldAddr hS rfl 4 Try.underlying51 rfl rfl info49 (by decide)) ?_
 refine qA hR rfl (fun _ hS => Yld.load1 hS rfl Try.underlying49 rfl rdQ) ?_
 refine qM hR ?_
 intro aa hS
 refine sB (Bcall hS rfl Try.call48 (LOut_ok (x := (s : Int)) (hR.pk (r := linksA _ _ _ bl _ _ _) pkQ)) (by decide) ?_); clear hS; intro aa ww vv hS hp
 clear hR
 obtain ⟨rfl, hR⟩ := hp
 refine wpList_nil ?_
 refine hK450 _ _ ?_
 refine wp_seq_k ?_; intro K451 hK451
 refine wp_seq_k ?_; intro K452 hK452
 refine wp_region_lit ?_
 revert aa
 refine qM hR ?_
 refine qA hR rfl (fun _ hS => Yld.nilCheck hS rfl) ?_
 refine qA hR rfl (fun _ hS => Yld.fieldAddr hS rfl 4 Try.underlying51 rfl rfl info49 (by decide)) ?_
 refine qA hR rfl (fun _ hS => Yld.load1 hS rfl Try.underlying49 rfl rdQ) ?_
 refine qM hR ?_
 intro aa hS
 refine sB (Bcall hS rfl Try.call34 (LLen_ok (x := (q : Int)) (hR.pk (r := linksA _ _ _ bl _ _ _) pkQ)) (by decide) ?_); clear hS; intro aa ww vv hS hp
 clear hR
 obtain ⟨rfl, hR⟩ := hp
 rw [hol2] at hS
 revert aa
 refine qA hR rfl (fun _ hS => Yld.eql hS rfl rfl) ?_
 refine qB (t := 49) false rfl (by exact decide_eq_false (by omega)) ?_
 intro aa hS
 refine wpList_nil ?_
 refine hK452 _ _ ?_
 refine condF hS rfl ?_
 refine wp_skip ?_
 refine hK451 _ _ ?_
 refine wp_seq_k ?_; intro K453 hK453
 refine wp_region_lit ?_
 revert aa
 refine qM hR ?_
 refine qN hR ?_
 refine qN hR ?_
 intro aa hS
 refine wpList_nil ?_
 refine hK453 _ _ ?_
 refine wp_ret ?_
 repeat first | with_reducible refine thenR ?_ | with_reducible refine blockR ?_ | with_reducible refine scopeR ?_
 refine retN (fn := Try.f20) (e := .ret) (.inl rfl) Try.results20 hS hR ⟨_, .cons (.tmp rfl) (.cons (.tmp rfl) (.nil)), rfl, ?_⟩
 try dsimp only [lay, List.set] at hR
 rw [remO_more he]
 exact ⟨rfl, Sep.sourceI (t := ss) (b := b) (T := { O := T.O.filter fun p => decide (p.2 ≠ s), R := T.R, A := T.A }) hX hS4 hl6 (hR.sub exQ)⟩
set_option maxHeartbeats 1000000 in
set_option maxRecDepth 20000 in
theorem soClose_last {T : So} {S lim b : Nat} {l : List HP} {w : World} {s : Nat} (hs : s < S) {a : Int} (hq : ofO T.O (s : Int) = some a) (he : slO (T.O.filter fun p => decide (p.2 ≠ s)) a = []) (hR : Sep (sourceA ss b S lim T :: l) w) : CallR Try.prog 20 [.pointer (some ⟨b, 0, none⟩), .int .i64 (s : Int)] w (fun v w' => v = .tuple [.int .u32 a, .int .i64 0].toArray ∧ Sep (sourceA ss b S lim (remO T a s) :: l) w') := by
 refine enter Try.func20 rfl Try.ntmps20 (Nat.le_of_ble_eq_true rfl) ?_; intro aa hS
 obtain ⟨bo, ba, bl, r, c, L, us, hT, hS4, hl6, hR⟩ := (hR.pk (r := sourceA _ b _ _ _) pkQ).sourceE
 dsimp only at hR
 have hSF := hT.sf
 have hul := hT.len
 have hwl := (hR.pk (r := linksA _ _ _ bl _ _ _) pkQ).linksWL
 obtain ⟨s2, q, hss, hsS, hsm, hsr, hqS, hrc, hof, hol, hsl, hua⟩ := hT.ofSome hwl hq
 obtain rfl : s = s2 := by omega
 obtain ⟨hux, hue⟩ := List.getElem?_eq_some_iff.1 hua
 have hX := hT.rem hwl hsm hsr
 have hol2 := hT.outLen hwl hsm hsr
 obtain ⟨u, hu⟩ := hSF.atr hsr
 have hwa := hSF.wf _ hsr
 have hix := rem_ix hSF hsr
 rw [he] at hol2
 rw [remO_last hrc he] at hX
 refine wp_seq_k ?_; intro K454 hK454
 refine wp_region_lit ?_
 revert aa
 refine qN hR ?_
 refine qN hR ?_
 intro aa hS
 refine wpList_nil ?_
 refine hK454 _ _ ?_
 refine wp_seq_k ?_; intro K455 hK455
 refine wp_block ?_
 refine wp_seq_k ?_; intro K456 hK456
 refine wp_region_lit ?_
 revert aa
 refine qM hR ?_
 intro aa hS
 refine sB (Bcall hS rfl Try.call31 (sonone_ok (hR.pk (r := blk b _ _) pkQ)) (by decide) ?_); clear hS; intro aa ww vv hS hp
 clear hR
 obtain ⟨rfl, hR⟩ := hp
 revert aa
 refine qN hR ?_
 intro aa hS
 refine wpList_nil ?_
 refine hK456 _ _ ?_
 refine condF hS rfl ?_
 refine wp_seq_k ?_; intro K457 hK457
 refine wp_region_lit ?_
 revert aa
 refine qM hR ?_
 refine qM hR ?_
 intro aa hS
 refine sB (Bcall hS rfl Try.call42 (soright_ok (i := (s : Int)) (hR.pk (r := blk b _ _) pkQ)) (by decide) ?_); clear hS; intro aa ww vv hS hp
 clear hR
 obtain ⟨rfl, hR⟩ := hp
 revert aa
 refine qB (t := 17) true rfl (by exact decide_eq_true (by omega)) ?_
 refine qA hR rfl (fun _ hS => Yld.not hS rfl) ?_
 refine qN hR ?_
 intro aa hS
 refine wpList_nil ?_
 refine hK457 _ _ ?_
 refine condF hS rfl ?_
 refine wp_skip ?_
 refine hK455 _ _ ?_
 refine wp_seq_k ?_; intro K458 hK458
 refine wp_region_lit ?_
 revert aa
 refine qM hR ?_
 refine qA hR rfl (fun _ hS => Yld.nilCheck hS rfl) ?_
 refine qA hR rfl (fun _ hS => Yld.fieldAddr hS rfl 4 Try.underlying51 rfl rfl info49 (by decide)) ?_
 refine qA hR rfl (fun _ hS => Yld.load1 hS rfl Try.underlying49 rfl rdQ) ?_
 refine qM hR ?_
 intro aa hS
 refine sB (Bcall hS rfl Try.call43 (LOf_ok (x := (s : Int)) (hR.pk (r := linksA _ _ _ bl _ _ _) pkQ)) (by decide) ?_); clear hS; intro aa ww vv hS hp
 clear hR
 obtain ⟨rfl, hR⟩ := hp
 rw [hof] at hS
 dsimp only [optV, Option.getD, Option.isSome] at hS
 revert aa
 refine qM hR ?_
 refine qX hR ?_
 refine qX hR ?_
 refine qB (t := 27) true rfl (by rfl) ?_
 refine qN hR ?_
 refine qN hR ?_
 intro aa hS
 refine wpList_nil ?_
 refine hK458 _ _ ?_
 refine wp_seq_k ?_; intro K459 hK459
 refine wp_seq_k ?_; intro K460 hK460
 refine wp_region_lit ?_
 revert aa
 refine qM hR ?_
 refine qA hR rfl (fun _ hS => Yld.not hS rfl) ?_
 intro aa hS
 refine wpList_nil ?_
 refine hK460 _ _ ?_
 refine condF hS rfl ?_
 refine wp_skip ?_
 refine hK459 _ _ ?_
 refine wp_seq_k ?_; intro K461 hK461
 refine wp_region_lit ?_
 revert aa
 refine qM hR ?_
 refine qA hR rfl (fun _ hS => Yld.nilCheck hS rfl) ?_
 refine qA hR rfl (fun _ hS => Yld.fieldAddr hS rfl 1 Try.underlying51 rfl rfl info46 (by decide)) ?_
 refine qA hR rfl (fun _ hS => Yld.load1 hS rfl Try.underlying46 rfl rdQ) ?_
 refine qM hR ?_
 refine qA hR rfl (fun _ hS => ilQ 1 (s) Try.underlying46 info28) ?_
 refine qA hR rfl (fun _ hS => Yld.load1 hS rfl Try.underlying28 rfl (Rd.rec0 (k := s) (xs := us) (v := .int .u32 a) pkQ (by intro _; rfl) hux (by rw [hue]; rfl))) ?_
 refine qN hR ?_
 intro aa hS
 refine wpList_nil ?_
 refine hK461 _ _ ?_
 refine wp_seq_k ?_; intro K462 hK462
 refine wp_region_lit ?_
 revert aa
 refine qM hR ?_
 refine qA hR rfl (fun _ hS => Yld.nilCheck hS rfl) ?_
 refine qA hR rfl (fun _ hS => Yld.fieldAddr hS rfl 4 Try.underlying51 rfl rfl info49 (by decide)) ?_
 refine qA hR rfl (fun _ hS => Yld.load1 hS rfl Try.underlying49 rfl rdQ) ?_
 refine qM hR ?_
 intro aa hS
 refine sB (Bcall hS rfl Try.call48 (LOut_ok (x := (s : Int)) (hR.pk (r := linksA _ _ _ bl _ _ _) pkQ)) (by decide) ?_); clear hS; intro aa ww vv hS hp
 clear hR
 obtain ⟨rfl, hR⟩ := hp
 refine wpList_nil ?_
 refine hK462 _ _ ?_
 refine wp_seq_k ?_; intro K463 hK463
 refine wp_seq_k ?_; intro K464 hK464
 refine wp_region_lit ?_
 revert aa
 refine qM hR ?_
 refine qA hR rfl (fun _ hS => Yld.nilCheck hS rfl) ?_
 refine qA hR rfl (fun _ hS => Yld.fieldAddr hS rfl 4 Try.underlying51 rfl rfl info49 (by decide)) ?_
 refine qA hR rfl (fun _ hS => Yld.load1 hS rfl Try.underlying49 rfl rdQ) ?_
 refine qM hR ?_
 intro aa hS
 refine sB (Bcall hS rfl Try.call34 (LLen_ok (x := (q : Int)) (hR.pk (r := linksA _ _ _ bl _ _ _) pkQ)) (by decide) ?_); clear hS; intro aa ww vv hS hp
 clear hR
 obtain ⟨rfl, hR⟩ := hp
 rw [hol2] at hS
 revert aa
 refine qA hR rfl (fun _ hS => Yld.eql hS rfl rfl) ?_
 refine qB (t := 49) true rfl (by exact decide_eq_true rfl) ?_
 intro aa hS
 refine wpList_nil ?_
 refine hK464 _ _ ?_
 refine condT hS rfl ?_
 refine wp_seq_k ?_; intro K465 hK465
 refine wp_region_lit ?_
 revert aa
 refine qM hR ?_
 refine qA hR rfl (fun _ hS => Yld.nilCheck hS rfl) ?_
 refine qA hR rfl (fun _ hS => Yld.fieldAddr hS rfl 3 Try.underlying51 rfl rfl info48 (by decide)) ?_
 refine qA hR rfl (fun _ hS => Yld.load1 hS rfl Try.underlying48 rfl rdQ) ?_
 refine qM hR ?_
 intro aa hS
 refine sB (Bcall hS rfl Try.call49 (At_okA (s := (q : Int)) (hR.pk (r := arena _ _ ba _) pkQ)) (by decide) ?_); clear hS; intro aa ww vv hS hp
 clear hR
 obtain ⟨rfl, hR⟩ := hp
 rw [atV_some hu] at hS
 revert aa
 refine qM hR ?_
 refine qX hR ?_
 refine qX hR ?_
 intro aa hS
 refine sB (Balloc hS hR info95 (by rfl) (by rfl) (by decide) ?_); clear hS hR; intro aa ww bb9 hS hR
 refine sB (Bstore hS hR rfl rfl (by rfl) info95 (by rfl) pkQ (by rfl) (Nat.le_of_ble_eq_true rfl) ?_); clear hR; intro ww hR
 revert aa
 refine qN hR ?_
 intro aa hS
 refine wpList_nil ?_
 refine hK465 _ _ ?_
 refine wp_seq_k ?_; intro K466 hK466
 refine drawn (by kernel_rfl) hR (Ex.of_pk (r := arena _ _ ba _) pkQ) ?_; clear hR; intro ww hR hR0
 revert aa
 refine eA 0 rfl (by kernel_rfl) (fun _ _ _ h => h) hR0 rfl (fun _ hS => Yld.move hS rfl) ?_
 refine eA 1 rfl (by kernel_rfl) (fun _ _ _ h => h) hR0 rfl (fun _ hS => Yld.nilCheck hS rfl) ?_
 refine eA 2 rfl (by kernel_rfl) (fun _ _ _ h => h) hR0 rfl (fun _ hS => Yld.fieldAddr hS rfl 3 Try.underlying51 rfl rfl info48 (by decide)) ?_
 refine eA 3 rfl (by kernel_rfl) (fun _ _ _ h => h) hR0 rfl (fun _ hS => Yld.load1 hS rfl Try.underlying48 rfl rdQ) ?_
 intro aa hS
 refine dA 4 rfl (by kernel_rfl) (by kernel_rfl) (by kernel_rfl) (fun _ _ _ h => h) hS hR0 (Yld.loadAgg hS rfl Try.underlying95 rfl info95 rdsQ2 (by rfl)) (by decide) ?_; clear hS; intro aa hS
 refine dOne (i := 5) (by kernel_rfl) ?_
 refine dop rfl (Bcall hS rfl Try.call50 (Give_okA (s := (q : Int)) (u := u) (hR.pk (r := arena _ _ ba _) pkQ)) (by decide) ?_); clear hS; intro aa ww vv hS hp
 clear hR hR0
 obtain ⟨rfl, hR⟩ := hp
 rw [Ar.giveH_yes hu] at hR; rw [show T.A.giveE (q : Int) u = 0 from if_pos hu] at hS
 refine dnext (hR.sub exQ) ?_; intro hR0
 refine wpAnyH_done (by kernel_rfl) ?_ _; clear hR0
 refine hK466 _ _ ?_
 refine drawn (by kernel_rfl) hR (Ex.of_pk (r := trieA _ _ _ bo _ _) pkQ) ?_; clear hR; intro ww hR hR0
 revert aa
 refine eA 0 rfl (by kernel_rfl) (fun _ _ _ h => h) hR0 rfl (fun _ hS => Yld.move hS rfl) ?_
 refine eA 1 rfl (by kernel_rfl) (fun _ _ _ h => h) hR0 rfl (fun _ hS => Yld.nilCheck hS rfl) ?_
 refine eA 2 rfl (by kernel_rfl) (fun _ _ _ h => h) hR0 rfl (fun _ hS => Yld.fieldAddr hS rfl 2 Try.underlying51 rfl rfl info47 (by decide)) ?_
 refine eA 3 rfl (by kernel_rfl) (fun _ _ _ h => h) hR0 rfl (fun _ hS => Yld.load1 hS rfl Try.underlying47 rfl rdQ) ?_
 refine eA 4 rfl (by kernel_rfl) (fun _ _ _ h => h) hR0 rfl (fun _ hS => Yld.move hS rfl) ?_
 intro aa hS
 refine dOne (i := 5) (by kernel_rfl) ?_
 refine dop rfl (Bcall hS rfl Try.call33 (sokey_ok hR) (by decide) ?_); clear hS; intro aa ww vv hS hp
 clear hR hR0
 obtain ⟨rfl, hR⟩ := hp
 refine dnext (hR.sub exQ) ?_; intro hR0
 refine dOne (i := 6) (by kernel_rfl) ?_
 refine dop rfl (Bcall hS rfl Try.call51 (Out_ok (k := kA a) (hR.pk (r := trieA _ _ _ bo _ _) pkQ) (kA_wf hwa)) (by decide) ?_); clear hS; intro aa ww vv hS hp
 clear hR hR0
 obtain ⟨rfl, hR⟩ := hp
 rw [hix] at hR
 refine dnext (hR.sub exQ) ?_; intro hR0
 refine wpAnyH_done (by kernel_rfl) ?_ _; clear hR0
 refine hK463 _ _ ?_
 refine wp_seq_k ?_; intro K467 hK467
 refine wp_region_lit ?_
 revert aa
 refine qM hR ?_
 refine qN hR ?_
 refine qN hR ?_
 intro aa hS
 refine wpList_nil ?_
 refine hK467 _ _ ?_
 refine wp_ret ?_
 repeat first | with_reducible refine thenR ?_ | with_reducible refine blockR ?_ | with_reducible refine scopeR ?_
 refine retN (fn := Try.f20) (e := .ret) (.inl rfl) Try.results20 hS hR ⟨_, .cons (.tmp rfl) (.cons (.tmp rfl) (.nil)), rfl, ?_⟩
 try dsimp only [lay, List.set] at hR
 rw [remO_last hrc he]
 exact ⟨rfl, Sep.sourceI (t := ss) (b := b) (T := { O := T.O.filter fun p => decide (p.2 ≠ s), R := T.R.filter fun p => decide (p.1 ≠ a), A := T.A.give q }) hX hS4 hl6 (hR.sub exQ)⟩
theorem soClose_ok {T : So} {S lim b : Nat} {l : List HP} {w : World} {x : Int} (hR : Sep (sourceA ss b S lim T :: l) w) : CallR Try.prog 20 [.pointer (some ⟨b, 0, none⟩), .int .i64 x] w (fun v w' => v = .tuple [.int .u32 ((ofO T.O x).getD 0), .int .i64 (clsE S T x)].toArray ∧ Sep (sourceA ss b S lim (clsN T x) :: l) w') := by
 obtain ⟨bo, ba, bl, r, c, L, us, hT, hS4, hl6, hR⟩ := hR.sourceE
 have hSF := hT.sf
 replace hR := Sep.sourceI hT hS4 hl6 hR
 by_cases hx : 0 ≤ x ∧ x < S
 ·
  obtain ⟨s, rfl⟩ : ∃ s : Nat, x = s := ⟨x.toNat, by omega⟩
  have hs : s < S := by omega
  cases hq : ofO T.O (s : Int) with
  | none =>
   rw [(cls_none hx hq).1, (cls_none hx hq).2]
   exact soClose_none hs hq hR
  | some a =>
   rw [(cls_ok hs hq).1, (cls_ok hs hq).2]
   by_cases he : slO (T.O.filter fun p => decide (p.2 ≠ s)) a = []
   ·
    exact soClose_last hs hq he hR
   ·
    exact soClose_more hs hq he hR
 ·
  rw [(hSF.cls_bad hx).1, (hSF.cls_bad hx).2, hSF.off hx]
  exact soClose_bad hx hR
set_option maxRecDepth 20000 in
theorem soAll1_ok {k : Ky} {l : List HP} {w : World} (hR : Sep l w) : CallR Try.prog 55 [vK k] w (fun v w' => v = .int .u32 k.2.1 ∧ Sep l w') := by
 refine enter Try.func55 rfl Try.ntmps55 (Nat.le_of_ble_eq_true rfl) ?_; intro aa hS
 refine wp_seq_k ?_; intro K468 hK468
 refine wp_region_lit ?_
 refine sB (Bbox hS hR rfl (by rfl) (by decide) ?_); clear hS hR; intro aa ww bb1 hS hR
 revert aa
 refine qN hR ?_
 intro aa hS
 refine wpList_nil ?_
 refine hK468 _ _ ?_
 refine wp_seq_k ?_; intro K469 hK469
 refine wp_region_lit ?_
 revert aa
 refine qA hR rfl (fun _ hS => Yld.fieldAddr hS rfl 1 Try.underlying73 rfl rfl info28 (by decide)) ?_
 refine qA hR rfl (fun _ hS => Yld.load1 hS rfl Try.underlying28 rfl rdQ) ?_
 refine qN hR ?_
 intro aa hS
 refine wpList_nil ?_
 refine hK469 _ _ ?_
 refine wp_ret ?_
 repeat first | with_reducible refine thenR ?_ | with_reducible refine blockR ?_ | with_reducible refine scopeR ?_
 refine ret1 (fn := Try.f55) (e := .ret) (.inl rfl) Try.results55 hS hR ⟨_, (.tmp rfl), ?_⟩
 exact ⟨rfl, (hR.sub exQ)⟩
set_option maxRecDepth 20000 in
theorem soeach_ok {ks : List Ky} {q : Option Addr} {qc : Nat} {l : List HP} {w : World} (hl : ks.length ≤ 9000) (hR : Sep (sls q ks.length qc 73 5 (ks.flatMap eK) :: l) w) : CallR Try.prog 53 [.slice q ks.length qc, .func (.func 55) #[] #[]] w (fun v w' => ∃ r c, v = .slice r (ks.map fun k : Ky => k.2.1).length c ∧ Sep (sls r (ks.map fun k : Ky => k.2.1).length c 28 1 ((ks.map fun k : Ky => k.2.1).flatMap eUi) :: l) w') := by
 refine enter Try.func53 rfl Try.ntmps53 (Nat.le_of_ble_eq_true rfl) ?_; intro aa hS
 refine wp_seq_k ?_; intro K470 hK470
 refine wp_region_lit ?_
 revert aa
 refine qN hR ?_
 intro aa hS
 refine wpList_nil ?_
 refine hK470 _ _ ?_
 refine wp_seq_k ?_; intro K471 hK471
 refine wp_region_lit ?_
 revert aa
 refine qN hR ?_
 intro aa hS
 refine wpList_nil ?_
 refine hK471 _ _ ?_
 refine wp_seq_k ?_; intro K472 hK472
 refine wp_seq_k ?_; intro K473 hK473
 refine wp_region_lit ?_
 revert aa
 refine qM hR ?_
 refine qA hR rfl (fun _ hS => Yld.len hS rfl Try.underlying108) ?_
 refine qM hR ?_
 intro aa hS
 refine wpList_nil ?_
 refine hK473 _ _ ?_
 refine wp_block ?_
 replace hR := hR.slsNil (T := 28) (sz := 1)
 replace hR := hR.pk (r := sls none 0 0 28 1 []) pkQ
 refine loopI (X := Nat × Option Addr × Nat) [(1, _), (4, _), (8, _), (9, _)] (fun x => [(5, .slice x.2.1 ((ks.take x.1).map fun k : Ky => k.2.1).length x.2.2), (10, .int .i64 (x.1 : Int))]) (fun x => [sls x.2.1 ((ks.take x.1).map fun k : Ky => k.2.1).length x.2.2 28 1 (((ks.take x.1).map fun k : Ky => k.2.1).flatMap eUi)]) _ (fun x => x.1 ≤ ks.length) (fun x => ks.length - x.1) (0, none, 0) (Nat.zero_le _) (hS.le (Le.cons rfl (Le.cons rfl (Le.nilapp (Le.cons rfl (Le.cons rfl (Le.cons rfl (Le.cons rfl (Le.nil _))))))))) hR ?_
 clear hS hR; rintro ⟨i, r0, c0⟩ aa ww hI hS hR; dsimp only [List.cons_append, List.nil_append] at hI hS hR
 refine wp_seq_k ?_; intro K475 hK475
 refine wp_region_lit ?_
 refine sA hS hR (Yld.lss hS rfl rfl) (by decide) ?_; clear hS; intro aa hS
 refine wpList_nil ?_
 refine hK475 _ _ ?_
 refine wp_seq_k ?_; intro K476 hK476
 refine hS.splitB (t := 11) rfl ?_ ?_ <;> clear hS
 ·
  intro hg hS
  obtain ⟨f, hfk⟩ : ∃ y : Ky, ks[i]'(by omega) = y := ⟨_, rfl⟩
  have htk := List.take_succ_eq_append_getElem (l := ks) (i := i) (by omega)
  rw [hfk] at htk
  have htl : ((ks.take i).map fun k : Ky => k.2.1).length = i := by rw [List.length_map, List.length_take]; omega
  refine condT hS rfl ?_
  refine wp_skip ?_
  refine hK476 _ _ ?_
  refine wp_seq_k ?_; intro K477 hK477
  refine wp_block ?_
  refine wp_seq_k ?_; intro K478 hK478
  refine wp_region_lit ?_
  revert aa
  refine qA hR rfl (fun _ hS => ilQ 5 (i) Try.underlying108 info73) ?_
  refine qA hR rfl (fun _ hS => Yld.loadAgg (vs := eK f) hS rfl Try.underlying73 rfl info73 (hfk ▸ Rds.rec (enc := eK) (xs := ks) (k := i) pkQ (by intro _; rfl) (by omega)) (by rfl)) ?_
  intro aa hS
  refine sB (Balloc hS hR info73 (by rfl) (by rfl) (by decide) ?_); clear hS hR; intro aa ww bb7 hS hR
  refine sB (Bstore hS hR rfl rfl (by rfl) info73 (by rfl) pkQ (by rfl) (Nat.le_of_ble_eq_true rfl) ?_); clear hR; intro ww hR
  refine wpList_nil ?_
  refine hK478 _ _ ?_
  refine wp_region_lit ?_
  revert aa
  refine qM hR ?_
  refine qM hR ?_
  intro aa hS
  refine sA hS hR (Yld.loadAgg hS rfl Try.underlying73 rfl info73 rdsQ5 (by rfl)) (by decide) ?_; clear hS; intro aa hS
  refine sB (BcallV (first := []) (caps := []) hS rfl rfl Try.call55 (soAll1_ok (k := f) hR) (by decide) ?_); clear hS; intro aa ww vv hS hp
  clear hR
  obtain ⟨rfl, hR⟩ := hp
  refine sB (BbuildSlice hS hR rfl (bls46_1_0 _) (by decide) ?_); clear hS hR; intro aa ww bb18 hS hR
  refine sB (BappendR (sz := 1) hS hR rfl rfl Try.underlying46 info28 rfl rfl (by rfl) pkQ (XC.one (f.2.1) pkQ (by rfl) rfl) (by intro _; rfl) (by show (_ + _) * 4 ≤ _; first | omega | (simp only [List.length_take, List.length_append, List.length_drop, List.length_cons, List.length_nil, List.length_map]; omega)) (by first | omega | (simp only [List.length_take, List.length_append, List.length_drop, List.length_cons, List.length_nil, List.length_map]; omega)) (by first | rfl | (simp; done) | (simp; omega)) (by decide) ?_); clear hS hR; intro aa ww r19 c19 hS hR
  have hsn : ((ks.take i).map fun k : Ky => k.2.1) ++ [f.2.1] = (ks.take (i + 1)).map fun k : Ky => k.2.1 := by rw [htk, List.map_append]; rfl
  rw [hsn] at hS hR
  revert aa
  refine qN hR ?_
  intro aa hS
  refine wpList_nil ?_
  refine hK477 _ _ ?_
  refine wp_region_lit ?_
  refine sA hS hR adQ (by decide) ?_; clear hS; intro aa hS
  revert aa
  refine qM hR ?_
  intro aa hS
  refine wpList_nil ?_
  
  refine ⟨(i + 1, _, _), ?_, ?_, hS.le (Le.cons rfl (Le.cons rfl (Le.nilapp (Le.cons rfl (Le.cons rfl (Le.cons rfl (Le.cons rfl (Le.nil _)))))))), hR.sub (Ex.take pkQ (Ex.nilapp exQ))⟩
  ·
   dsimp only; omega
  ·
   dsimp only; omega
 ·
  intro hg hS
  obtain rfl : i = ks.length := by omega
  rw [List.take_length] at hS hR
  refine condF hS rfl ?_
  refine wp_exit ?_
  refine hK472 _ _ ?_
  refine wp_seq_k ?_; intro K479 hK479
  refine wp_region_lit ?_
  revert aa
  refine qM hR ?_
  refine qN hR ?_
  intro aa hS
  refine wpList_nil ?_
  refine hK479 _ _ ?_
  refine wp_ret ?_
  repeat first | with_reducible refine thenR ?_ | with_reducible refine blockR ?_ | with_reducible refine scopeR ?_
  refine ret1 (fn := Try.f53) (e := .ret) (.inl rfl) Try.results53 hS hR ⟨_, (.tmp rfl), ?_⟩
  have h9 : Sep (sls r0 (ks.map fun k : Ky => k.2.1).length c0 28 1 ((ks.map fun k : Ky => k.2.1).flatMap eUi) :: l) _ := (hR.sub exQ)
  exact ⟨r0, c0, rfl, h9⟩
set_option maxRecDepth 20000 in
theorem soAll_ok {T : So} {S lim b : Nat} {l : List HP} {w : World} (hR : Sep (sourceA ss b S lim T :: l) w) : CallR Try.prog 23 [.pointer (some ⟨b, 0, none⟩)] w (fun v w' => ∃ r c, v = .slice r (allR T.R).length c ∧ Sep (sls r (allR T.R).length c 28 1 ((allR T.R).flatMap eUi) :: sourceA ss b S lim T :: l) w') := by
 refine enter Try.func23 rfl Try.ntmps23 (Nat.le_of_ble_eq_true rfl) ?_; intro aa hS
 obtain ⟨bo, ba, bl, r, c, L, us, hT, hS4, hl6, hR⟩ := (hR.pk (r := sourceA _ b _ _ _) pkQ).sourceE
 dsimp only at hR
 have hSF := hT.sf
 have hul := hT.len
 have hwl := (hR.pk (r := linksA _ _ _ bl _ _ _) pkQ).linksWL
 have hal := hSF.allLen
 have hrl := hSF.rlen
 unfold allR at hal
 rw [List.length_map] at hal
 refine wp_seq_k ?_; intro K480 hK480
 refine wp_region_lit ?_
 revert aa
 refine qN hR ?_
 intro aa hS
 refine wpList_nil ?_
 refine hK480 _ _ ?_
 refine wp_seq_k ?_; intro K481 hK481
 refine wp_seq_k ?_; intro K482 hK482
 refine wp_region_lit ?_
 revert aa
 refine qM hR ?_
 intro aa hS
 refine sB (Bcall hS rfl Try.call31 (sonone_ok (hR.pk (r := blk b _ _) pkQ)) (by decide) ?_); clear hS; intro aa ww vv hS hp
 clear hR
 obtain ⟨rfl, hR⟩ := hp
 refine wpList_nil ?_
 refine hK482 _ _ ?_
 refine condF hS rfl ?_
 refine wp_skip ?_
 refine hK481 _ _ ?_
 refine wp_seq_k ?_; intro K483 hK483
 refine wp_region_lit ?_
 revert aa
 refine qM hR ?_
 refine qA hR rfl (fun _ hS => Yld.nilCheck hS rfl) ?_
 refine qA hR rfl (fun _ hS => Yld.fieldAddr hS rfl 2 Try.underlying51 rfl rfl info47 (by decide)) ?_
 refine qA hR rfl (fun _ hS => Yld.load1 hS rfl Try.underlying47 rfl rdQ) ?_
 intro aa hS
 refine sB (Bcall hS rfl Try.call54 (TKeys_ok (K := ixK T.R) (hR.pk (r := trieA _ _ _ bo _ _) pkQ)) (by decide) ?_); clear hS; intro aa ww vv hS hp
 clear hR
 obtain ⟨ra, ca, rfl, hR⟩ := hp
 rw [show undK (ixK T.R) (0, 0, 0, 0, 0) 0 = srt (ixK T.R) from rfl] at hS hR
 refine sB (Bcall hS rfl Try.call53 (soeach_ok (ks := srt (ixK T.R)) (q := ra) (qc := ca) (by omega) (hR.pk (r := sls ra _ _ _ _ _) pkQ)) (by decide) ?_); clear hS; intro aa ww vv hS hp
 clear hR
 obtain ⟨rz, cz, rfl, hR⟩ := hp
 rw [show ((srt (ixK T.R)).map fun k : Ky => k.2.1) = allR T.R from rfl] at hS hR
 revert aa
 refine qN hR ?_
 intro aa hS
 refine wpList_nil ?_
 refine hK483 _ _ ?_
 refine wp_ret ?_
 repeat first | with_reducible refine thenR ?_ | with_reducible refine blockR ?_ | with_reducible refine scopeR ?_
 refine ret1 (fn := Try.f23) (e := .ret) (.inl rfl) Try.results23 hS hR ⟨_, (.tmp rfl), ?_⟩
 replace hR := Sep.sourceI (t := ss) (b := b) (T := T) hT hS4 hl6 (hR.sub exQ : Sep (_ :: _ :: _ :: _ :: _ :: sls rz _ cz 28 1 _ :: l) _)
 exact ⟨rz, cz, rfl, (hR.sub exQ)⟩
set_option maxRecDepth 20000 in
theorem soNew_bad {m i : Int} {l : List HP} {w : World} (hR : Sep l w) (hn : ¬ (1 ≤ m ∧ m ≤ 4096 ∧ 1 ≤ i ∧ i ≤ 64)) : CallR Try.prog 16 [.int .i64 m, .int .i64 i] w (fun v w' => v = .tuple [.pointer none, .int .i64 2].toArray ∧ Sep l w') := by
 refine enter Try.func16 rfl Try.ntmps16 (Nat.le_of_ble_eq_true rfl) ?_; intro aa hS
 refine wp_seq_k ?_; intro K484 hK484
 refine wp_region_lit ?_
 revert aa
 refine qN hR ?_
 refine qN hR ?_
 intro aa hS
 refine wpList_nil ?_
 refine hK484 _ _ ?_
 refine wp_seq_k ?_; intro K485 hK485
 refine wp_seq_k ?_; intro K486 hK486
 refine wp_region_lit ?_
 revert aa
 refine qM hR ?_
 refine qA hR rfl (fun _ hS => Yld.lss hS rfl rfl) ?_
 refine qM hR ?_
 intro aa hS
 refine hS.splitB (t := 9) rfl ?_ ?_ <;> clear hS
 ·
  intro hg hS
  revert aa
  refine qZ ?_
  refine qZ ?_
  refine qA hR rfl (fun _ hS => Yld.pickT hS rfl rfl) ?_
  refine qM hR ?_
  refine qZ ?_
  refine qZ ?_
  refine qA hR rfl (fun _ hS => Yld.pickT hS rfl rfl) ?_
  refine qM hR ?_
  refine qZ ?_
  refine qZ ?_
  refine qA hR rfl (fun _ hS => Yld.pickT hS rfl rfl) ?_
  intro aa hS
  refine wpList_nil ?_
  refine hK486 _ _ ?_
  refine condT hS rfl ?_
  refine wp_seq_k ?_; intro K487 hK487
  refine wp_region_lit ?_
  revert aa
  refine qN hR ?_
  refine qN hR ?_
  intro aa hS
  refine wpList_nil ?_
  refine hK487 _ _ ?_
  refine wp_ret ?_
  repeat first | with_reducible refine thenR ?_ | with_reducible refine blockR ?_ | with_reducible refine scopeR ?_
  refine retN (fn := Try.f16) (e := .ret) (.inl rfl) Try.results16 hS hR ⟨_, .cons (.tmp rfl) (.cons (.tmp rfl) (.nil)), rfl, ?_⟩
  exact ⟨rfl, (hR.sub exQ)⟩
 ·
  intro hg hS
  revert aa
  refine qMg hR ?_
  refine qAg hR rfl rfl rfl (fun _ hS => Yld.gtr hS rfl rfl) ?_
  refine qA hR rfl (fun _ hS => Yld.pickF hS rfl rfl) ?_
  refine qM hR ?_
  intro aa hS
  refine hS.splitB (t := 13) rfl ?_ ?_ <;> clear hS
  ·
   intro hg hS
   revert aa
   refine qZ ?_
   refine qZ ?_
   refine qA hR rfl (fun _ hS => Yld.pickT hS rfl rfl) ?_
   refine qM hR ?_
   refine qZ ?_
   refine qZ ?_
   refine qA hR rfl (fun _ hS => Yld.pickT hS rfl rfl) ?_
   intro aa hS
   refine wpList_nil ?_
   refine hK486 _ _ ?_
   refine condT hS rfl ?_
   refine wp_seq_k ?_; intro K488 hK488
   refine wp_region_lit ?_
   revert aa
   refine qN hR ?_
   refine qN hR ?_
   intro aa hS
   refine wpList_nil ?_
   refine hK488 _ _ ?_
   refine wp_ret ?_
   repeat first | with_reducible refine thenR ?_ | with_reducible refine blockR ?_ | with_reducible refine scopeR ?_
   refine retN (fn := Try.f16) (e := .ret) (.inl rfl) Try.results16 hS hR ⟨_, .cons (.tmp rfl) (.cons (.tmp rfl) (.nil)), rfl, ?_⟩
   exact ⟨rfl, (hR.sub exQ)⟩
  ·
   intro hg hS
   revert aa
   refine qMg hR ?_
   refine qAg hR rfl rfl rfl (fun _ hS => Yld.lss hS rfl rfl) ?_
   refine qA hR rfl (fun _ hS => Yld.pickF hS rfl rfl) ?_
   refine qM hR ?_
   intro aa hS
   refine hS.splitB (t := 17) rfl ?_ ?_ <;> clear hS
   ·
    intro hg hS
    revert aa
    refine qZ ?_
    refine qZ ?_
    refine qA hR rfl (fun _ hS => Yld.pickT hS rfl rfl) ?_
    intro aa hS
    refine wpList_nil ?_
    refine hK486 _ _ ?_
    refine condT hS rfl ?_
    refine wp_seq_k ?_; intro K489 hK489
    refine wp_region_lit ?_
    revert aa
    refine qN hR ?_
    refine qN hR ?_
    intro aa hS
    refine wpList_nil ?_
    refine hK489 _ _ ?_
    refine wp_ret ?_
    repeat first | with_reducible refine thenR ?_ | with_reducible refine blockR ?_ | with_reducible refine scopeR ?_
    refine retN (fn := Try.f16) (e := .ret) (.inl rfl) Try.results16 hS hR ⟨_, .cons (.tmp rfl) (.cons (.tmp rfl) (.nil)), rfl, ?_⟩
    exact ⟨rfl, (hR.sub exQ)⟩
   ·
    intro hg hS
    revert aa
    refine qMg hR ?_
    refine qAg hR rfl rfl rfl (fun _ hS => Yld.gtr hS rfl rfl) ?_
    refine qB (t := 19) true rfl (by exact decide_eq_true (by omega)) ?_
    refine qA hR rfl (fun _ hS => Yld.pickF hS rfl rfl) ?_
    intro aa hS
    refine wpList_nil ?_
    refine hK486 _ _ ?_
    refine condT hS rfl ?_
    refine wp_seq_k ?_; intro K490 hK490
    refine wp_region_lit ?_
    revert aa
    refine qN hR ?_
    refine qN hR ?_
    intro aa hS
    refine wpList_nil ?_
    refine hK490 _ _ ?_
    refine wp_ret ?_
    repeat first | with_reducible refine thenR ?_ | with_reducible refine blockR ?_ | with_reducible refine scopeR ?_
    refine retN (fn := Try.f16) (e := .ret) (.inl rfl) Try.results16 hS hR ⟨_, .cons (.tmp rfl) (.cons (.tmp rfl) (.nil)), rfl, ?_⟩
    exact ⟨rfl, (hR.sub exQ)⟩
set_option maxHeartbeats 1000000 in
set_option maxRecDepth 20000 in
theorem soNew_ok {S lim : Nat} {l : List HP} {w : World} (hR : Sep l w) (h1 : 1 ≤ S) (h2 : S ≤ 4096) (h3 : 1 ≤ lim) (h4 : lim ≤ 64) : CallR Try.prog 16 [.int .i64 (S : Int), .int .i64 (lim : Int)] w (fun v w' => ∃ b, v = .tuple [.pointer (some ⟨b, 0, none⟩), .int .i64 0].toArray ∧ Sep (sourceA ss b S lim { O := [], R := [], A := Ar.new S } :: l) w') := by
 refine enter Try.func16 rfl Try.ntmps16 (Nat.le_of_ble_eq_true rfl) ?_; intro aa hS
 refine wp_seq_k ?_; intro K491 hK491
 refine wp_region_lit ?_
 revert aa
 refine qN hR ?_
 refine qN hR ?_
 intro aa hS
 refine wpList_nil ?_
 refine hK491 _ _ ?_
 refine wp_seq_k ?_; intro K492 hK492
 refine wp_seq_k ?_; intro K493 hK493
 refine wp_region_lit ?_
 revert aa
 refine qM hR ?_
 refine qA hR rfl (fun _ hS => Yld.lss hS rfl rfl) ?_
 refine qB (t := 8) false rfl (by exact decide_eq_false (by omega)) ?_
 refine qM hR ?_
 refine qMg hR ?_
 refine qAg hR rfl rfl rfl (fun _ hS => Yld.gtr hS rfl rfl) ?_
 refine qB (t := 11) false rfl (by exact decide_eq_false (by omega)) ?_
 refine qA hR rfl (fun _ hS => Yld.pickF hS rfl rfl) ?_
 refine qM hR ?_
 refine qMg hR ?_
 refine qAg hR rfl rfl rfl (fun _ hS => Yld.lss hS rfl rfl) ?_
 refine qB (t := 15) false rfl (by exact decide_eq_false (by omega)) ?_
 refine qA hR rfl (fun _ hS => Yld.pickF hS rfl rfl) ?_
 refine qM hR ?_
 refine qMg hR ?_
 refine qAg hR rfl rfl rfl (fun _ hS => Yld.gtr hS rfl rfl) ?_
 refine qB (t := 19) false rfl (by exact decide_eq_false (by omega)) ?_
 refine qA hR rfl (fun _ hS => Yld.pickF hS rfl rfl) ?_
 intro aa hS
 refine wpList_nil ?_
 refine hK493 _ _ ?_
 refine condF hS rfl ?_
 refine wp_skip ?_
 refine hK492 _ _ ?_
 refine wp_seq_k ?_; intro K494 hK494
 refine wp_region_lit ?_
 revert aa
 refine qM hR ?_
 refine qM hR ?_
 intro aa hS
 refine sB (Bmake (zc := [.int .u32 0]) hS hR rfl rfl Try.underlying46 info28 rfl (by rfl) (by rfl) (by decide) (by omega) (by show ((4 : Nat) : Int) * _ ≤ _; omega) (by omega) (by decide) ?_); clear hS hR; intro aa ww bb23 hS hR
 rw [show ((S : Int)).toNat = S from Int.toNat_natCast S] at hS hR
 replace hR := hR.pk (r := blk bb23 _ _) pkQ
 rw [zeros_flat (zc := [.int .u32 0]) (enc := eUi) (0 : Int) S rfl] at hR
 replace hR := Sep.toRecs (m := S) (sz := 1) (enc := eUi) (List.replicate S 0) hR rfl (by intro _; rfl) (by rw [List.length_replicate])
 refine sA hS hR (Yld.build hS rfl (bld51_0_1 _ _ _ _)) (by decide) ?_; clear hS; intro aa hS
 refine sB (Bbox hS hR rfl (by rfl) (by decide) ?_); clear hS hR; intro aa ww bb25 hS hR
 revert aa
 refine qN hR ?_
 intro aa hS
 refine wpList_nil ?_
 refine hK494 _ _ ?_
 refine wp_seq_k ?_; intro K495 hK495
 refine wp_region_lit ?_
 revert aa
 refine qM hR ?_
 refine qM hR ?_
 intro aa hS
 refine sB (Bcall hS rfl Try.call39 (TNew_ok (n := (S : Int)) hR (by omega)) (by decide) ?_); clear hS; intro aa ww vv hS hp
 clear hR
 obtain ⟨bo, rfl, hR⟩ := hp
 change Sep (trieA _ _ _ bo (ixK []) _ :: _) _ at hR
 revert aa
 refine qM hR ?_
 refine qX hR ?_
 refine qX hR ?_
 refine qA hR rfl (fun _ hS => Yld.nilCheck hS rfl) ?_
 refine qA hR rfl (fun _ hS => Yld.fieldAddr hS rfl 2 Try.underlying51 rfl rfl info47 (by decide)) ?_
 intro aa hS
 refine sB (Bstore hS hR rfl rfl (by rfl) info47 (by rfl) pkQ (by rfl) (Nat.le_of_ble_eq_true rfl) ?_); clear hR; intro ww hR
 refine wpList_nil ?_
 refine hK495 _ _ ?_
 refine wp_seq_k ?_; intro K496 hK496
 refine wp_region_lit ?_
 revert aa
 refine qM hR ?_
 refine qM hR ?_
 intro aa hS
 refine sB (Bcall hS rfl Try.call40 (New_ok (n := (S : Int)) hR (by omega)) (by decide) ?_); clear hS; intro aa ww vv hS hp
 clear hR
 obtain ⟨ba, rfl, hR⟩ := hp
 rw [Int.toNat_natCast] at hR
 revert aa
 refine qM hR ?_
 refine qX hR ?_
 refine qX hR ?_
 refine qA hR rfl (fun _ hS => Yld.nilCheck hS rfl) ?_
 refine qA hR rfl (fun _ hS => Yld.fieldAddr hS rfl 3 Try.underlying51 rfl rfl info48 (by decide)) ?_
 intro aa hS
 refine sB (Bstore hS hR rfl rfl (by rfl) info48 (by rfl) pkQ (by rfl) (Nat.le_of_ble_eq_true rfl) ?_); clear hR; intro ww hR
 refine wpList_nil ?_
 refine hK496 _ _ ?_
 refine wp_seq_k ?_; intro K497 hK497
 refine wp_region_lit ?_
 revert aa
 refine qM hR ?_
 refine qM hR ?_
 refine qM hR ?_
 intro aa hS
 refine sB (Bcall hS rfl Try.call41 (LNew_ok (S := S) (n := S) hR (by omega) (by omega) (by omega) (by omega)) (by decide) ?_); clear hS; intro aa ww vv hS hp
 clear hR
 obtain ⟨bl, rfl, hR⟩ := hp
 revert aa
 refine qM hR ?_
 refine qX hR ?_
 refine qX hR ?_
 refine qA hR rfl (fun _ hS => Yld.nilCheck hS rfl) ?_
 refine qA hR rfl (fun _ hS => Yld.fieldAddr hS rfl 4 Try.underlying51 rfl rfl info49 (by decide)) ?_
 intro aa hS
 refine sB (Bstore hS hR rfl rfl (by rfl) info49 (by rfl) pkQ (by rfl) (Nat.le_of_ble_eq_true rfl) ?_); clear hR; intro ww hR
 refine wpList_nil ?_
 refine hK497 _ _ ?_
 refine wp_seq_k ?_; intro K498 hK498
 refine wp_region_lit ?_
 revert aa
 refine qM hR ?_
 refine qN hR ?_
 refine qN hR ?_
 intro aa hS
 refine wpList_nil ?_
 refine hK498 _ _ ?_
 refine wp_ret ?_
 repeat first | with_reducible refine thenR ?_ | with_reducible refine blockR ?_ | with_reducible refine scopeR ?_
 refine retN (fn := Try.f16) (e := .ret) (.inl rfl) Try.results16 hS hR ⟨_, .cons (.tmp rfl) (.cons (.tmp rfl) (.nil)), rfl, ?_⟩
 try dsimp only [lay, List.set] at hR
 have h9 : Sep (sourceA ss bb25 S lim { O := [], R := [], A := Ar.new S } :: l) _ := Sep.sourceI (t := ss) (b := bb25) (T := { O := [], R := [], A := Ar.new S }) (SI.new h1 h2) h2 h4 (hR.sub exQ)
 exact ⟨bb25, rfl, h9⟩
end Go.Proofs.Ythjfclljjcpikaa.Sx
