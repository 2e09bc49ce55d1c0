/-
 
-/
import Derived.Test.YtkhdejjompbklaaKTrF
import Derived.Test.YtkhdejjompbklaaKPc
import Derived.Test.YtkhdejjompbklaaKPn
namespace Go.Proofs.Ytkhdejjompbklaa.Sx
open Go
set_option maxRecDepth 20000
set_option linter.unusedVariables false
set_option linter.unusedSimpArgs false
theorem info104 : Try.prog.info? 104 = some Try.t104 := by kernel_rfl
theorem bld112_0_1 (x0 : Option Addr) (x1_a : Option Addr) (x1_n x1_c : Nat) (w : World) : (Instr.build 112 [(0, .pointer x0), (1, .slice x1_a x1_n x1_c)].toArray).run Try.prog w = .ok (.agg [.pointer x0, .slice x1_a x1_n x1_c, .int .i64 0].toArray) w := by kernel_rfl
theorem lrsome_ok {b bl : Nat} {y z : Value} {l : List HP} {w : World} (hR : Sep (blk b [.pointer (some ⟨bl, 0, none⟩), y, z] 112 :: l) w) : CallR Try.prog 61 [.pointer (some ⟨b, 0, none⟩)] w (fun v w' => v = .bool true ∧ Sep (blk b [.pointer (some ⟨bl, 0, none⟩), y, z] 112 :: l) w') := by
 refine enter Try.func61 rfl Try.ntmps61 (Nat.le_of_ble_eq_true rfl) ?_; intro aa hS
 refine wp_seq_k ?_; intro K347 hK347
 refine wp_region_lit ?_
 revert aa
 refine qN hR ?_
 intro aa hS
 refine wpList_nil ?_
 refine hK347 _ _ ?_
 refine wp_seq_k ?_; intro K348 hK348
 refine wp_region_lit ?_
 revert aa
 refine qM hR ?_
 refine qA hR rfl (fun _ hS => Yld.neqNil hS rfl rfl Try.underlying72) ?_
 refine qB (t := 4) true rfl (by rfl) ?_
 refine qM hR ?_
 refine qMg hR ?_
 refine qAg hR rfl rfl rfl (fun _ hS => Yld.nilCheck hS rfl) ?_
 refine qAg hR rfl rfl rfl (fun _ hS => Yld.fieldAddr hS rfl 0 Try.underlying112 rfl rfl info104 (by decide)) ?_
 refine qAg hR rfl rfl rfl (fun _ hS => Yld.load1 hS rfl Try.underlying104 rfl rdQ) ?_
 refine qAg hR rfl rfl rfl (fun _ hS => Yld.neqNil hS rfl rfl Try.underlying104) ?_
 refine qB (t := 10) true rfl (by rfl) ?_
 refine qA hR rfl (fun _ hS => Yld.pickT hS rfl rfl) ?_
 refine qN hR ?_
 intro aa hS
 refine wpList_nil ?_
 refine hK348 _ _ ?_
 refine wp_ret ?_
 repeat first | with_reducible refine thenR ?_ | with_reducible refine blockR ?_ | with_reducible refine scopeR ?_
 refine ret1 (fn := Try.f61) (e := .ret) (.inl rfl) Try.results61 hS hR ⟨_, (.tmp rfl), ?_⟩
 exact ⟨rfl, (hR.sub exQ)⟩
theorem lrslot_ok {b S c : Nat} {r : Option Addr} {y z : Value} {l : List HP} {w : World} {i : Int} (hR : Sep (blk b [y, .slice r S c, z] 112 :: l) w) : CallR Try.prog 76 [.pointer (some ⟨b, 0, none⟩), .int .i64 i] w (fun v w' => v = .bool (decide (0 ≤ i ∧ i < S)) ∧ Sep (blk b [y, .slice r S c, z] 112 :: l) w') := by
 refine enter Try.func76 rfl Try.ntmps76 (Nat.le_of_ble_eq_true rfl) ?_; intro aa hS
 refine wp_seq_k ?_; intro K349 hK349
 refine wp_region_lit ?_
 revert aa
 refine qN hR ?_
 intro aa hS
 refine wpList_nil ?_
 refine hK349 _ _ ?_
 refine wp_seq_k ?_; intro K350 hK350
 refine wp_region_lit ?_
 revert aa
 refine qM hR ?_
 refine qA hR rfl (fun _ hS => Yld.geq hS rfl rfl) ?_
 refine qM hR ?_
 intro aa hS
 refine hS.splitB (t := 7) rfl ?_ ?_ <;> clear hS
 ·
  intro hg hS
  revert aa
  refine qMg hR ?_
  refine qMg hR ?_
  refine qAg hR rfl rfl rfl (fun _ hS => Yld.nilCheck hS rfl) ?_
  refine qAg hR rfl rfl rfl (fun _ hS => Yld.fieldAddr hS rfl 1 Try.underlying112 rfl rfl info41 (by decide)) ?_
  refine qAg hR rfl rfl rfl (fun _ hS => Yld.load1 hS rfl Try.underlying41 rfl rdQ) ?_
  refine qAg hR rfl rfl rfl (fun _ hS => Yld.len hS rfl Try.underlying41) ?_
  refine qAg hR rfl rfl rfl (fun _ hS => Yld.lss hS rfl rfl) ?_
  refine qA hR rfl (fun _ hS => Yld.pickT hS rfl rfl) ?_
  refine qN hR ?_
  intro aa hS
  refine wpList_nil ?_
  refine hK350 _ _ ?_
  refine wp_ret ?_
  repeat first | with_reducible refine thenR ?_ | with_reducible refine blockR ?_ | with_reducible refine scopeR ?_
  refine ret1 (fn := Try.f76) (e := .ret) (.inl rfl) Try.results76 hS hR ⟨_, (.tmp rfl), ?_⟩
  refine ⟨?_, (hR.sub exQ)⟩
  first | exact dec_iff (by constructor <;> intro h <;> omega) | exact dec_no (by omega)| exact dec_yes (by omega)
 ·
  intro hg hS
  revert aa
  refine qZ ?_
  refine qZ ?_
  refine qZ ?_
  refine qZ ?_
  refine qZ ?_
  refine qZ ?_
  refine qZ ?_
  refine qA hR rfl (fun _ hS => Yld.pickF hS rfl rfl) ?_
  refine qN hR ?_
  intro aa hS
  refine wpList_nil ?_
  refine hK350 _ _ ?_
  refine wp_ret ?_
  repeat first | with_reducible refine thenR ?_ | with_reducible refine blockR ?_ | with_reducible refine scopeR ?_
  refine ret1 (fn := Try.f76) (e := .ret) (.inl rfl) Try.results76 hS hR ⟨_, (.tmp rfl), ?_⟩
  refine ⟨?_, (hR.sub exQ)⟩
  first | exact dec_iff (by constructor <;> intro h <;> omega) | exact dec_no (by omega)| exact dec_yes (by omega)
theorem lrNew_ok {S : Nat} {l : List HP} {w : World} (hR : Sep l w) (h1 : 1 ≤ S) (h2 : S ≤ 4096) : CallR Try.prog 48 [.int .i64 (S : Int)] w (fun v w' => ∃ b, v = .tuple [.pointer (some ⟨b, 0, none⟩), .int .i64 0].toArray ∧ Sep (lruA 112 142 160 3 b S [] (fun _ => 0) 0 :: l) w') := by
 refine enter Try.func48 rfl Try.ntmps48 (Nat.le_of_ble_eq_true rfl) ?_; intro aa hS
 refine wp_seq_k ?_; intro K356 hK356
 refine wp_region_lit ?_
 revert aa
 refine qN hR ?_
 refine qN hR ?_
 intro aa hS
 refine wpList_nil ?_
 refine hK356 _ _ ?_
 refine wp_seq_k ?_; intro K357 hK357
 refine wp_seq_k ?_; intro K358 hK358
 refine wp_region_lit ?_
 revert aa
 refine qM hR ?_
 refine qA hR rfl (fun _ hS => Yld.lss hS rfl rfl) ?_
 refine qB (t := 7) false rfl (by exact decide_eq_false (by omega)) ?_
 refine qM hR ?_
 refine qMg hR ?_
 refine qAg hR rfl rfl rfl (fun _ hS => Yld.gtr hS rfl rfl) ?_
 refine qB (t := 10) false rfl (by exact decide_eq_false (by omega)) ?_
 refine qA hR rfl (fun _ hS => Yld.pickF hS rfl rfl) ?_
 intro aa hS
 refine wpList_nil ?_
 refine hK358 _ _ ?_
 refine condF hS rfl ?_
 refine wp_skip ?_
 refine hK357 _ _ ?_
 refine wp_seq_k ?_; intro K359 hK359
 refine wp_region_lit ?_
 revert aa
 refine qM hR ?_
 intro aa hS
 refine sB (Bcall hS rfl Try.call72 (LNew_ok (S := S) (n := 1) hR (by omega) (by omega) (by decide) (by decide)) (by decide) ?_); clear hS; intro aa ww vv hS hp
 clear hR
 obtain ⟨bl, rfl, hR⟩ := hp
 revert aa
 refine qM hR ?_
 refine qX hR ?_
 refine qX hR ?_
 refine qN hR ?_
 refine qN hR ?_
 intro aa hS
 refine wpList_nil ?_
 refine hK359 _ _ ?_
 refine wp_seq_k ?_; intro K360 hK360
 refine wp_seq_k ?_; intro K361 hK361
 refine wp_region_lit ?_
 revert aa
 refine qM hR ?_
 refine qA hR rfl (fun _ hS => Yld.neq hS rfl rfl) ?_
 refine qB (t := 18) false rfl (by rfl) ?_
 intro aa hS
 refine wpList_nil ?_
 refine hK361 _ _ ?_
 refine condF hS rfl ?_
 refine wp_skip ?_
 refine hK360 _ _ ?_
 refine wp_seq_k ?_; intro K362 hK362
 refine wp_region_lit ?_
 revert aa
 refine qM hR ?_
 refine qM hR ?_
 intro aa hS
 refine sB (Bmake (zc := [.int .i64 0]) hS hR rfl rfl Try.underlying41 info3 rfl (by rfl) (by rfl) (by decide) (by omega) (by show ((8 : Nat) : Int) * _ ≤ _; omega) (by omega) (by decide) ?_); clear hS hR; intro aa ww bb22 hS hR
 rw [show ((S : Int)).toNat = S from by omega] at hS hR
 replace hR := hR.pk (r := blk bb22 _ _) pkQ
 rw [new_zeros] at hR
 replace hR := Sep.toRecs (m := S) (sz := 1) (enc := e1) (tab S (fun _ => 0)) hR rfl (by intro _; rfl) (by rw [tab_len])
 refine sA hS hR (Yld.build hS rfl (bld112_0_1 _ _ _ _)) (by decide) ?_; clear hS; intro aa hS
 refine sB (Bbox hS hR rfl (by rfl) (by decide) ?_); clear hS hR; intro aa ww bb24 hS hR
 revert aa
 refine qN hR ?_
 refine qN hR ?_
 intro aa hS
 refine wpList_nil ?_
 refine hK362 _ _ ?_
 refine wp_ret ?_
 repeat first | with_reducible refine thenR ?_ | with_reducible refine blockR ?_ | with_reducible refine scopeR ?_
 refine retN (fn := Try.f48) (e := .ret) (.inl rfl) Try.results48 hS hR ⟨_, .cons (.tmp rfl) (.cons (.tmp rfl) (.nil)), rfl, ?_⟩
 exact ⟨_, rfl, Sep.lruAI (L := fun _ => []) rfl (hR.sub exQ)⟩
theorem lrSee_ok {S b : Nat} {ord : List Nat} {T : Nat → Int} {now : Int} {l : List HP} {w : World} {i : Int} (hR : Sep (lruA 112 142 160 3 b S ord T now :: l) w) (hn : 0 ≤ now ∧ now ≤ 4611686018427387904) : CallR Try.prog 54 [.pointer (some ⟨b, 0, none⟩), .int .i64 i] w (fun v w' => v = seeV S now i ∧ Sep (lruA 112 142 160 3 b S (seeO S ord i) (seeT S T now i) (seeN S now i) :: l) w') := by
 refine enter Try.func54 rfl Try.ntmps54 (Nat.le_of_ble_eq_true rfl) ?_; intro aa hS
 obtain ⟨bl, r, c, hWL, hbr, hR⟩ := hR.lruAE
 obtain ⟨hnd, hlt, hol⟩ := hWL.ords
 have hs1 := hWL.s1
 have hs2 := hWL.s2
 refine wp_seq_k ?_; intro K363 hK363
 refine wp_region_lit ?_
 revert aa
 refine qN hR ?_
 refine qN hR ?_
 intro aa hS
 refine wpList_nil ?_
 refine hK363 _ _ ?_
 refine wp_seq_k ?_; intro K364 hK364
 refine wp_block ?_
 refine wp_seq_k ?_; intro K365 hK365
 refine wp_region_lit ?_
 revert aa
 refine qM hR ?_
 intro aa hS
 refine sB (Bcall hS rfl Try.call61 (lrsome_ok (hR.pk (r := blk b _ _) pkQ)) (by decide) ?_); clear hS; intro aa ww vv hS hp
 clear hR
 obtain ⟨rfl, hR⟩ := hp
 revert aa
 refine qA hR rfl (fun _ hS => Yld.not hS rfl) ?_
 refine qN hR ?_
 intro aa hS
 refine wpList_nil ?_
 refine hK365 _ _ ?_
 refine condF hS rfl ?_
 refine wp_seq_k ?_; intro K366 hK366
 refine wp_region_lit ?_
 revert aa
 refine qM hR ?_
 refine qM hR ?_
 intro aa hS
 refine sB (Bcall hS rfl Try.call76 (lrslot_ok (hR.pk (r := blk b _ _) pkQ)) (by decide) ?_); clear hS; intro aa ww vv hS hp
 clear hR
 obtain ⟨rfl, hR⟩ := hp
 revert aa
 refine qA hR rfl (fun _ hS => Yld.not hS rfl) ?_
 refine qN hR ?_
 intro aa hS
 refine wpList_nil ?_
 refine hK366 _ _ ?_
 refine hS.splitB (t := 10) rfl ?_ ?_ <;> clear hS
 ·
  intro hg hS
  refine condT hS rfl ?_
  refine wp_seq_k ?_; intro K367 hK367
  refine wp_region_lit ?_
  revert aa
  refine qN hR ?_
  refine qN hR ?_
  intro aa hS
  refine wpList_nil ?_
  refine hK367 _ _ ?_
  refine wp_ret ?_
  repeat first | with_reducible refine thenR ?_ | with_reducible refine blockR ?_ | with_reducible refine scopeR ?_
  refine retN (fn := Try.f54) (e := .ret) (.inl rfl) Try.results54 hS hR ⟨_, .cons (.tmp rfl) (.cons (.tmp rfl) (.nil)), rfl, ?_⟩
  have hbad : ¬ (0 ≤ i ∧ i < S) := by omega
  refine ⟨by rw [seeV, if_neg hbad], ?_⟩
  rw [seeO, seeT, seeN, if_neg hbad, if_neg hbad, if_neg hbad]
  exact Sep.lruAI (TU := 112) (TL := 142) (TN := 160) (TI := 3) (b := b) rfl (hR.sub exQ)
 ·
  intro hg hS
  obtain ⟨i, rfl⟩ : ∃ z9 : Nat, i = z9 := ⟨(i).toNat, by omega⟩
  have hi : i < S := by omega
  refine condF hS rfl ?_
  refine wp_skip ?_
  refine hK364 _ _ ?_
  refine wp_seq_k ?_; intro K368 hK368
  refine wp_region_lit ?_
  revert aa
  refine qM hR ?_
  refine qA hR rfl (fun _ hS => Yld.nilCheck hS rfl) ?_
  refine qA hR rfl (fun _ hS => Yld.fieldAddr hS rfl 0 Try.underlying112 rfl rfl info104 (by decide)) ?_
  refine qA hR rfl (fun _ hS => Yld.load1 hS rfl Try.underlying104 rfl rdQ) ?_
  refine qM hR ?_
  intro aa hS
  refine sB (Bcall hS rfl Try.call77 (LOut_ok (x := (i : Int)) (hR.pk (r := linksA _ _ _ _ _ _ _) pkQ)) (by decide) ?_); clear hS; intro aa ww vv hS hp
  clear hR
  obtain ⟨rfl, hR⟩ := hp
  refine wpList_nil ?_
  refine hK368 _ _ ?_
  refine wp_seq_k ?_; intro K369 hK369
  refine wp_region_lit ?_
  revert aa
  refine qM hR ?_
  refine qA hR rfl (fun _ hS => Yld.nilCheck hS rfl) ?_
  refine qA hR rfl (fun _ hS => Yld.fieldAddr hS rfl 0 Try.underlying112 rfl rfl info104 (by decide)) ?_
  refine qA hR rfl (fun _ hS => Yld.load1 hS rfl Try.underlying104 rfl rdQ) ?_
  refine qM hR ?_
  intro aa hS
  refine sB (Bcall hS rfl Try.call79 (LBack_ok (x := 0) (y := (i : Int)) (hR.pk (r := linksA _ _ _ _ _ _ _) pkQ)) (by decide) ?_); clear hS; intro aa ww vv hS hp
  clear hR
  obtain ⟨rfl, hR⟩ := hp
  refine wpList_nil ?_
  refine hK369 _ _ ?_
  refine wp_seq_k ?_; intro K370 hK370
  refine wp_region_lit ?_
  revert aa
  refine qM hR ?_
  refine qA hR rfl (fun _ hS => Yld.nilCheck hS rfl) ?_
  refine qA hR rfl (fun _ hS => Yld.fieldAddr hS rfl 2 Try.underlying112 rfl rfl info3 (by decide)) ?_
  refine qA hR rfl (fun _ hS => Yld.load1 hS rfl Try.underlying3 rfl rdQ) ?_
  intro aa hS
  refine sA hS hR adQ (by decide) ?_; clear hS; intro aa hS
  revert aa
  refine qA hR rfl (fun _ hS => Yld.nilCheck hS rfl) ?_
  refine qA hR rfl (fun _ hS => Yld.fieldAddr hS rfl 2 Try.underlying112 rfl rfl info3 (by decide)) ?_
  intro aa hS
  refine sB (Bstore hS hR rfl rfl (by rfl) info3 (by rfl) pkQ (by rfl) (Nat.le_of_ble_eq_true rfl) ?_); clear hR; intro ww hR
  refine wpList_nil ?_
  refine hK370 _ _ ?_
  refine wp_seq_k ?_; intro K371 hK371
  refine drawn krQ hR (Ex.of_pk (r := sls r _ _ _ _ _) pkQ) ?_; clear hR; intro ww hR hR0
  revert aa
  refine eA 0 rfl krQ (fun _ _ _ h => h) hR0 rfl (fun _ hS => Yld.move hS rfl) ?_
  refine eA 1 rfl krQ (fun _ _ _ h => h) hR0 rfl (fun _ hS => Yld.nilCheck hS rfl) ?_
  refine eA 2 rfl krQ (fun _ _ _ h => h) hR0 rfl (fun _ hS => Yld.fieldAddr hS rfl 1 Try.underlying112 rfl rfl info41 (by decide)) ?_
  refine eA 3 rfl krQ (fun _ _ _ h => h) hR0 rfl (fun _ hS => Yld.load1 hS rfl Try.underlying41 rfl rdQ) ?_
  refine eA 4 rfl krQ (fun _ _ _ h => h) hR0 rfl (fun _ hS => Yld.move hS rfl) ?_
  refine eA 5 rfl krQ (fun _ _ _ h => h) hR0 rfl (fun _ hS => Yld.move hS rfl) ?_
  refine eA 6 rfl krQ (fun _ _ _ h => h) hR0 rfl (fun _ hS => Yld.nilCheck hS rfl) ?_
  refine eA 7 rfl krQ (fun _ _ _ h => h) hR0 rfl (fun _ hS => Yld.fieldAddr hS rfl 2 Try.underlying112 rfl rfl info3 (by decide)) ?_
  refine eA 8 rfl krQ (fun _ _ _ h => h) hR0 rfl (fun _ hS => Yld.load1 hS rfl Try.underlying3 rfl rdQ) ?_
  refine eA 9 rfl krQ (fun _ _ _ h => h) hR0 rfl (fun _ hS => ihQ 1 (i) Try.underlying41 info3) ?_
  intro aa hS
  refine dOne (i := 10) krQ ?_
  refine dop rfl (BstoreR0 (now + 1) hS hR rfl rfl (by rfl) info3 (by rfl) pkQ (by rfl) (by intro _; rfl) (by first | omega | (rw [tab_len]; omega)) (by first | exact Nat.le_of_ble_eq_true rfl | (simp only [List.length_singleton]; omega)) (Nat.le_of_ble_eq_true rfl) (by rfl) ?_); clear hR hR0; intro ww hR
  refine dnext (hR.sub exQ) ?_; intro hR0
  rw [tab_set] at hR
  refine wpAnyH_done krQ ?_ _; clear hR0
  refine hK371 _ _ ?_
  refine wp_seq_k ?_; intro K372 hK372
  refine wp_region_lit ?_
  revert aa
  refine qM hR ?_
  refine qA hR rfl (fun _ hS => Yld.nilCheck hS rfl) ?_
  refine qA hR rfl (fun _ hS => Yld.fieldAddr hS rfl 2 Try.underlying112 rfl rfl info3 (by decide)) ?_
  intro aa hS
  refine sA hS hR (Yld.load1 hS rfl Try.underlying3 rfl rdQ) (by decide) ?_; clear hS; intro aa hS
  revert aa
  refine qN hR ?_
  refine qN hR ?_
  intro aa hS
  refine wpList_nil ?_
  refine hK372 _ _ ?_
  refine wp_ret ?_
  repeat first | with_reducible refine thenR ?_ | with_reducible refine blockR ?_ | with_reducible refine scopeR ?_
  refine retN (fn := Try.f54) (e := .ret) (.inl rfl) Try.results54 hS hR ⟨_, .cons (.tmp rfl) (.cons (.tmp rfl) (.nil)), rfl, ?_⟩
  have hok : 0 ≤ (i : Int) ∧ (i : Int) < S := by omega
  try dsimp only [lay, List.set] at hR
  refine ⟨by rw [seeV, if_pos hok], ?_⟩
  rw [seeO, seeT, seeN, if_pos hok, if_pos hok, if_pos hok, Int.toNat_natCast]
  exact Sep.lruAI (TU := 112) (TL := 142) (TN := 160) (TI := 3) (b := b) (one_see hWL hi) (hR.sub exQ)
theorem lrOut_ok {S b : Nat} {ord : List Nat} {T : Nat → Int} {now : Int} {l : List HP} {w : World} {i : Int} (hR : Sep (lruA 112 142 160 3 b S ord T now :: l) w) : CallR Try.prog 51 [.pointer (some ⟨b, 0, none⟩), .int .i64 i] w (fun v w' => v = .int .i64 (loutE S ord i) ∧ Sep (lruA 112 142 160 3 b S (loutO S ord i) T now :: l) w') := by
 refine enter Try.func51 rfl Try.ntmps51 (Nat.le_of_ble_eq_true rfl) ?_; intro aa hS
 obtain ⟨bl, r, c, hWL, hbr, hR⟩ := hR.lruAE
 obtain ⟨hnd, hlt, hol⟩ := hWL.ords
 have hs1 := hWL.s1
 have hs2 := hWL.s2
 refine wp_seq_k ?_; intro K373 hK373
 refine wp_region_lit ?_
 revert aa
 refine qN hR ?_
 intro aa hS
 refine wpList_nil ?_
 refine hK373 _ _ ?_
 refine wp_seq_k ?_; intro K374 hK374
 refine wp_block ?_
 refine wp_seq_k ?_; intro K375 hK375
 refine wp_region_lit ?_
 revert aa
 refine qM hR ?_
 intro aa hS
 refine sB (Bcall hS rfl Try.call61 (lrsome_ok (hR.pk (r := blk b _ _) pkQ)) (by decide) ?_); clear hS; intro aa ww vv hS hp
 clear hR
 obtain ⟨rfl, hR⟩ := hp
 revert aa
 refine qA hR rfl (fun _ hS => Yld.not hS rfl) ?_
 refine qN hR ?_
 intro aa hS
 refine wpList_nil ?_
 refine hK375 _ _ ?_
 refine condF hS rfl ?_
 refine wp_seq_k ?_; intro K376 hK376
 refine wp_region_lit ?_
 revert aa
 refine qM hR ?_
 refine qM hR ?_
 intro aa hS
 refine sB (Bcall hS rfl Try.call76 (lrslot_ok (hR.pk (r := blk b _ _) pkQ)) (by decide) ?_); clear hS; intro aa ww vv hS hp
 clear hR
 obtain ⟨rfl, hR⟩ := hp
 revert aa
 refine qA hR rfl (fun _ hS => Yld.not hS rfl) ?_
 refine qN hR ?_
 intro aa hS
 refine wpList_nil ?_
 refine hK376 _ _ ?_
 refine hS.splitB (t := 9) rfl ?_ ?_ <;> clear hS
 ·
  intro hg hS
  refine condT hS rfl ?_
  refine wp_seq_k ?_; intro K377 hK377
  refine wp_region_lit ?_
  revert aa
  refine qN hR ?_
  intro aa hS
  refine wpList_nil ?_
  refine hK377 _ _ ?_
  refine wp_ret ?_
  repeat first | with_reducible refine thenR ?_ | with_reducible refine blockR ?_ | with_reducible refine scopeR ?_
  refine ret1 (fn := Try.f51) (e := .ret) (.inl rfl) Try.results51 hS hR ⟨_, (.tmp rfl), ?_⟩
  have hbad : ¬ (0 ≤ i ∧ i < S) := by omega
  refine ⟨by rw [loutE, if_neg hbad], ?_⟩
  rw [loutO, if_neg hbad]
  exact Sep.lruAI (TU := 112) (TL := 142) (TN := 160) (TI := 3) (b := b) rfl (hR.sub exQ)
 ·
  intro hg hS
  obtain ⟨i, rfl⟩ : ∃ z9 : Nat, i = z9 := ⟨(i).toNat, by omega⟩
  have hi : i < S := by omega
  refine condF hS rfl ?_
  refine wp_skip ?_
  refine hK374 _ _ ?_
  refine wp_seq_k ?_; intro K378 hK378
  refine wp_region_lit ?_
  revert aa
  refine qM hR ?_
  refine qA hR rfl (fun _ hS => Yld.nilCheck hS rfl) ?_
  refine qA hR rfl (fun _ hS => Yld.fieldAddr hS rfl 0 Try.underlying112 rfl rfl info104 (by decide)) ?_
  refine qA hR rfl (fun _ hS => Yld.load1 hS rfl Try.underlying104 rfl rdQ) ?_
  refine qM hR ?_
  intro aa hS
  refine sB (Bcall hS rfl Try.call77 (LOut_ok (x := (i : Int)) (hR.pk (r := linksA _ _ _ _ _ _ _) pkQ)) (by decide) ?_); clear hS; intro aa ww vv hS hp
  clear hR
  obtain ⟨rfl, hR⟩ := hp
  rw [one_outE hi] at hS
  revert aa
  refine qN hR ?_
  intro aa hS
  refine wpList_nil ?_
  refine hK378 _ _ ?_
  refine wp_ret ?_
  repeat first | with_reducible refine thenR ?_ | with_reducible refine blockR ?_ | with_reducible refine scopeR ?_
  refine ret1 (fn := Try.f51) (e := .ret) (.inl rfl) Try.results51 hS hR ⟨_, (.tmp rfl), ?_⟩
  have hok : 0 ≤ (i : Int) ∧ (i : Int) < S := by omega
  refine ⟨by rw [loutE, if_pos hok, Int.toNat_natCast], ?_⟩
  rw [loutO, if_pos hok, Int.toNat_natCast]
  exact Sep.lruAI (TU := 112) (TL := 142) (TN := 160) (TI := 3) (b := b) (one_out hi) (hR.sub exQ)
theorem lrOldest_ok {S b : Nat} {ord : List Nat} {T : Nat → Int} {now : Int} {l : List HP} {w : World} (hR : Sep (lruA 112 142 160 3 b S ord T now :: l) w) : CallR Try.prog 39 [.pointer (some ⟨b, 0, none⟩)] w (fun v w' => v = optV ((dirL 0 ord).head?) ∧ Sep (lruA 112 142 160 3 b S ord T now :: l) w') := by
 refine enter Try.func39 rfl Try.ntmps39 (Nat.le_of_ble_eq_true rfl) ?_; intro aa hS
 obtain ⟨bl, r, c, hWL, hbr, hR⟩ := hR.lruAE
 obtain ⟨hnd, hlt, hol⟩ := hWL.ords
 have hs1 := hWL.s1
 have hs2 := hWL.s2
 refine wp_seq_k ?_; intro K379 hK379
 refine wp_region_lit ?_
 revert aa
 refine qN hR ?_
 refine qN hR ?_
 intro aa hS
 refine wpList_nil ?_
 refine hK379 _ _ ?_
 refine wp_seq_k ?_; intro K380 hK380
 refine wp_seq_k ?_; intro K381 hK381
 refine wp_region_lit ?_
 revert aa
 refine qM hR ?_
 intro aa hS
 refine sB (Bcall hS rfl Try.call61 (lrsome_ok (hR.pk (r := blk b _ _) pkQ)) (by decide) ?_); clear hS; intro aa ww vv hS hp
 clear hR
 obtain ⟨rfl, hR⟩ := hp
 refine sA hS hR (Yld.not hS rfl) (by decide) ?_; clear hS; intro aa hS
 refine wpList_nil ?_
 refine hK381 _ _ ?_
 refine condF hS rfl ?_
 refine wp_skip ?_
 refine hK380 _ _ ?_
 refine wp_seq_k ?_; intro K382 hK382
 refine wp_region_lit ?_
 revert aa
 refine qM hR ?_
 refine qA hR rfl (fun _ hS => Yld.nilCheck hS rfl) ?_
 refine qA hR rfl (fun _ hS => Yld.fieldAddr hS rfl 0 Try.underlying112 rfl rfl info104 (by decide)) ?_
 refine qA hR rfl (fun _ hS => Yld.load1 hS rfl Try.underlying104 rfl rdQ) ?_
 intro aa hS
 refine sB (Bcall hS rfl Try.call62 (LFirst_ok (x := 0) (hR.pk (r := linksA _ _ _ _ _ _ _) pkQ)) (by decide) ?_); clear hS; intro aa ww vv hS hp
 clear hR
 obtain ⟨rfl, hR⟩ := hp
 revert aa
 refine qX hR ?_
 refine qX hR ?_
 refine qN hR ?_
 refine qN hR ?_
 intro aa hS
 refine wpList_nil ?_
 refine hK382 _ _ ?_
 refine wp_ret ?_
 repeat first | with_reducible refine thenR ?_ | with_reducible refine blockR ?_ | with_reducible refine scopeR ?_
 refine retN (fn := Try.f39) (e := .ret) (.inl rfl) Try.results39 hS hR ⟨_, .cons (.tmp rfl) (.cons (.tmp rfl) (.nil)), rfl, ?_⟩
 exact ⟨rfl, Sep.lruAI (TU := 112) (TL := 142) (TN := 160) (TI := 3) (b := b) rfl (hR.sub exQ)⟩
theorem lrWhen_ok {S b : Nat} {ord : List Nat} {T : Nat → Int} {now : Int} {l : List HP} {w : World} {i : Int} (hR : Sep (lruA 112 142 160 3 b S ord T now :: l) w) : CallR Try.prog 53 [.pointer (some ⟨b, 0, none⟩), .int .i64 i] w (fun v w' => v = whenV S ord T i ∧ Sep (lruA 112 142 160 3 b S ord T now :: l) w') := by
 refine enter Try.func53 rfl Try.ntmps53 (Nat.le_of_ble_eq_true rfl) ?_; intro aa hS
 obtain ⟨bl, r, c, hWL, hbr, hR⟩ := hR.lruAE
 obtain ⟨hnd, hlt, hol⟩ := hWL.ords
 have hs1 := hWL.s1
 have hs2 := hWL.s2
 refine wp_seq_k ?_; intro K383 hK383
 refine wp_region_lit ?_
 revert aa
 refine qN hR ?_
 refine qN hR ?_
 intro aa hS
 refine wpList_nil ?_
 refine hK383 _ _ ?_
 refine wp_seq_k ?_; intro K384 hK384
 refine wp_seq_k ?_; intro K385 hK385
 refine wp_region_lit ?_
 revert aa
 refine qM hR ?_
 intro aa hS
 refine sB (Bcall hS rfl Try.call61 (lrsome_ok (hR.pk (r := blk b _ _) pkQ)) (by decide) ?_); clear hS; intro aa ww vv hS hp
 clear hR
 obtain ⟨rfl, hR⟩ := hp
 refine sA hS hR (Yld.not hS rfl) (by decide) ?_; clear hS; intro aa hS
 refine wpList_nil ?_
 refine hK385 _ _ ?_
 refine condF hS rfl ?_
 refine wp_skip ?_
 refine hK384 _ _ ?_
 refine wp_seq_k ?_; intro K386 hK386
 refine wp_seq_k ?_; intro K387 hK387
 refine wp_region_lit ?_
 revert aa
 refine qM hR ?_
 refine qA hR rfl (fun _ hS => Yld.nilCheck hS rfl) ?_
 refine qA hR rfl (fun _ hS => Yld.fieldAddr hS rfl 0 Try.underlying112 rfl rfl info104 (by decide)) ?_
 refine qA hR rfl (fun _ hS => Yld.load1 hS rfl Try.underlying104 rfl rdQ) ?_
 refine qM hR ?_
 intro aa hS
 refine sB (Bcall hS rfl Try.call78 (LOf_ok (x := i) (hR.pk (r := linksA _ _ _ _ _ _ _) pkQ)) (by decide) ?_); clear hS; intro aa ww vv hS hp
 clear hR
 obtain ⟨rfl, hR⟩ := hp
 revert aa
 refine qM hR ?_
 refine qX hR ?_
 refine qX hR ?_
 refine qN hR ?_
 refine qN hR ?_
 intro aa hS
 refine wpList_nil ?_
 refine hK387 _ _ ?_
 refine wp_seq_k ?_; intro K388 hK388
 refine wp_region_lit ?_
 revert aa
 refine qM hR ?_
 refine qA hR rfl (fun _ hS => Yld.not hS rfl) ?_
 intro aa hS
 refine wpList_nil ?_
 refine hK388 _ _ ?_
 refine hS.splitB (t := 21) rfl ?_ ?_ <;> clear hS
 ·
  intro hg hS
  have hbad : ¬ (0 ≤ i ∧ i < S ∧ i.toNat ∈ ord) := fun h => by
   rw [ofS, if_pos ⟨h.1, h.2.1⟩, one_of, if_pos h.2.2] at hg; simp at hg
  refine condT hS rfl ?_
  refine wp_seq_k ?_; intro K389 hK389
  refine wp_region_lit ?_
  revert aa
  refine qN hR ?_
  refine qN hR ?_
  intro aa hS
  refine wpList_nil ?_
  refine hK389 _ _ ?_
  refine wp_ret ?_
  repeat first | with_reducible refine thenR ?_ | with_reducible refine blockR ?_ | with_reducible refine scopeR ?_
  refine retN (fn := Try.f53) (e := .ret) (.inl rfl) Try.results53 hS hR ⟨_, .cons (.tmp rfl) (.cons (.tmp rfl) (.nil)), rfl, ?_⟩
  refine ⟨by rw [whenV, if_neg hbad], ?_⟩
  exact Sep.lruAI (TU := 112) (TL := 142) (TN := 160) (TI := 3) (b := b) rfl (hR.sub exQ)
 ·
  intro hg hS
  have hok : 0 ≤ i ∧ i < S ∧ i.toNat ∈ ord := by
   by_cases h : 0 ≤ i ∧ i < S
   ·
    rw [ofS, if_pos h, one_of] at hg
    by_cases h2 : i.toNat ∈ ord
    ·
     exact ⟨h.1, h.2, h2⟩
    ·
     rw [if_neg h2] at hg; simp at hg
   ·
    rw [ofS, if_neg h] at hg; simp at hg
  obtain ⟨i, rfl⟩ : ∃ z9 : Nat, i = z9 := ⟨(i).toNat, by omega⟩
  rw [Int.toNat_natCast] at hok
  refine condF hS rfl ?_
  refine wp_skip ?_
  refine hK386 _ _ ?_
  refine wp_seq_k ?_; intro K390 hK390
  refine wp_region_lit ?_
  revert aa
  refine qM hR ?_
  refine qA hR rfl (fun _ hS => Yld.nilCheck hS rfl) ?_
  refine qA hR rfl (fun _ hS => Yld.fieldAddr hS rfl 1 Try.underlying112 rfl rfl info41 (by decide)) ?_
  refine qA hR rfl (fun _ hS => Yld.load1 hS rfl Try.underlying41 rfl rdQ) ?_
  refine qM hR ?_
  refine qA hR rfl (fun _ hS => ihQ 1 (i) Try.underlying41 info3) ?_
  refine qA hR rfl (fun _ hS => Yld.load1 hS rfl Try.underlying3 rfl (Rd.rec0 (k := i) (xs := tab S T) (v := .int .i64 (T i)) pkQ (by intro _; rfl) (by rw [tab_len]; omega) (by rw [tab_get]; rfl))) ?_
  refine qN hR ?_
  refine qN hR ?_
  intro aa hS
  refine wpList_nil ?_
  refine hK390 _ _ ?_
  refine wp_ret ?_
  repeat first | with_reducible refine thenR ?_ | with_reducible refine blockR ?_ | with_reducible refine scopeR ?_
  refine retN (fn := Try.f53) (e := .ret) (.inl rfl) Try.results53 hS hR ⟨_, .cons (.tmp rfl) (.cons (.tmp rfl) (.nil)), rfl, ?_⟩
  refine ⟨by rw [whenV, Int.toNat_natCast, if_pos hok], ?_⟩
  exact Sep.lruAI (TU := 112) (TL := 142) (TN := 160) (TI := 3) (b := b) rfl (hR.sub exQ)
theorem lrLen_ok {S b : Nat} {ord : List Nat} {T : Nat → Int} {now : Int} {l : List HP} {w : World} (hR : Sep (lruA 112 142 160 3 b S ord T now :: l) w) : CallR Try.prog 38 [.pointer (some ⟨b, 0, none⟩)] w (fun v w' => v = .int .i64 (ord.length : Int) ∧ Sep (lruA 112 142 160 3 b S ord T now :: l) w') := by
 refine enter Try.func38 rfl Try.ntmps38 (Nat.le_of_ble_eq_true rfl) ?_; intro aa hS
 obtain ⟨bl, r, c, hWL, hbr, hR⟩ := hR.lruAE
 obtain ⟨hnd, hlt, hol⟩ := hWL.ords
 have hs1 := hWL.s1
 have hs2 := hWL.s2
 refine wp_seq_k ?_; intro K391 hK391
 refine wp_region_lit ?_
 revert aa
 refine qN hR ?_
 intro aa hS
 refine wpList_nil ?_
 refine hK391 _ _ ?_
 refine wp_seq_k ?_; intro K392 hK392
 refine wp_seq_k ?_; intro K393 hK393
 refine wp_region_lit ?_
 revert aa
 refine qM hR ?_
 intro aa hS
 refine sB (Bcall hS rfl Try.call61 (lrsome_ok (hR.pk (r := blk b _ _) pkQ)) (by decide) ?_); clear hS; intro aa ww vv hS hp
 clear hR
 obtain ⟨rfl, hR⟩ := hp
 refine sA hS hR (Yld.not hS rfl) (by decide) ?_; clear hS; intro aa hS
 refine wpList_nil ?_
 refine hK393 _ _ ?_
 refine condF hS rfl ?_
 refine wp_skip ?_
 refine hK392 _ _ ?_
 refine wp_seq_k ?_; intro K394 hK394
 refine wp_region_lit ?_
 revert aa
 refine qM hR ?_
 refine qA hR rfl (fun _ hS => Yld.nilCheck hS rfl) ?_
 refine qA hR rfl (fun _ hS => Yld.fieldAddr hS rfl 0 Try.underlying112 rfl rfl info104 (by decide)) ?_
 refine qA hR rfl (fun _ hS => Yld.load1 hS rfl Try.underlying104 rfl rdQ) ?_
 intro aa hS
 refine sB (Bcall hS rfl Try.call58 (LLen_ok (x := 0) (hR.pk (r := linksA _ _ _ _ _ _ _) pkQ)) (by decide) ?_); clear hS; intro aa ww vv hS hp
 clear hR
 obtain ⟨rfl, hR⟩ := hp
 rw [one_all] at hS
 revert aa
 refine qN hR ?_
 intro aa hS
 refine wpList_nil ?_
 refine hK394 _ _ ?_
 refine wp_ret ?_
 repeat first | with_reducible refine thenR ?_ | with_reducible refine blockR ?_ | with_reducible refine scopeR ?_
 refine ret1 (fn := Try.f38) (e := .ret) (.inl rfl) Try.results38 hS hR ⟨_, (.tmp rfl), ?_⟩
 exact ⟨rfl, Sep.lruAI (TU := 112) (TL := 142) (TN := 160) (TI := 3) (b := b) rfl (hR.sub exQ)⟩
end Go.Proofs.Ytkhdejjompbklaa.Sx
