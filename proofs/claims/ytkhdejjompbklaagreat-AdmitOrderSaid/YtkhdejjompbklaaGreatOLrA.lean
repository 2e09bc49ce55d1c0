/-
 
-/
import Derived.Test.YtkhdejjompbklaaGreatOTrF
import Derived.Test.YtkhdejjompbklaaGreatOPc
import Derived.Test.YtkhdejjompbklaaGreatOPn
namespace Go.Proofs.YtkhdejjompbklaaGreat.Sx
open Go
set_option maxRecDepth 20000
set_option linter.unusedVariables false
set_option linter.unusedSimpArgs false
theorem info123 : Tryz.prog.info? 123 = some Tryz.t123 := by kernel_rfl
theorem bld125_0_1 (x0 : Option Addr) (x1_a : Option Addr) (x1_n x1_c : Nat) (w : World) : (Instr.build 125 [(0, .pointer x0), (1, .slice x1_a x1_n x1_c)].toArray).run Tryz.prog w = .ok (.agg [.pointer x0, .slice x1_a x1_n x1_c, .int .i64 0].toArray) w := by kernel_rfl
theorem lrsome_ok {b bl : Nat} {y z : Value} {l : List HP} {w : World} (hR : Sep (blk b [.pointer (some ⟨bl, 0, none⟩), y, z] 125 :: l) w) : CallR Tryz.prog 75 [.pointer (some ⟨b, 0, none⟩)] w (fun v w' => v = .bool true ∧ Sep (blk b [.pointer (some ⟨bl, 0, none⟩), y, z] 125 :: l) w') := by
 refine enter Tryz.func75 rfl Tryz.ntmps75 (Nat.le_of_ble_eq_true rfl) ?_; intro aa hS
 refine wp_seq_k ?_; intro K400 hK400
 refine wp_region_lit ?_
 revert aa
 refine qN hR ?_
 intro aa hS
 refine wpList_nil ?_
 refine hK400 _ _ ?_
 refine wp_seq_k ?_; intro K401 hK401
 refine wp_region_lit ?_
 revert aa
 refine qM hR ?_
 refine qA hR rfl (fun _ hS => Yld.neqNil hS rfl rfl Tryz.underlying54) ?_
 refine qB (t := 4) true rfl (by rfl) ?_
 refine qM hR ?_
 refine qMg hR ?_
 refine qAg hR rfl rfl rfl (fun _ hS => Yld.nilCheck hS rfl) ?_
 refine qAg hR rfl rfl rfl (fun _ hS => Yld.fieldAddr hS rfl 0 Tryz.underlying125 rfl rfl info123 (by decide)) ?_
 refine qAg hR rfl rfl rfl (fun _ hS => Yld.load1 hS rfl Tryz.underlying123 rfl rdQ) ?_
 refine qAg hR rfl rfl rfl (fun _ hS => Yld.neqNil hS rfl rfl Tryz.underlying123) ?_
 refine qB (t := 10) true rfl (by rfl) ?_
 refine qA hR rfl (fun _ hS => Yld.pickT hS rfl rfl) ?_
 refine qN hR ?_
 intro aa hS
 refine wpList_nil ?_
 refine hK401 _ _ ?_
 refine wp_ret ?_
 repeat first | with_reducible refine thenR ?_ | with_reducible refine blockR ?_ | with_reducible refine scopeR ?_
 refine ret1 (fn := Tryz.f75) (e := .ret) (.inl rfl) Tryz.results75 hS hR ⟨_, (.tmp rfl), ?_⟩
 exact ⟨rfl, (hR.sub exQ)⟩
theorem lrslot_ok {b S c : Nat} {r : Option Addr} {y z : Value} {l : List HP} {w : World} {i : Int} (hR : Sep (blk b [y, .slice r S c, z] 125 :: l) w) : CallR Tryz.prog 102 [.pointer (some ⟨b, 0, none⟩), .int .i64 i] w (fun v w' => v = .bool (decide (0 ≤ i ∧ i < S)) ∧ Sep (blk b [y, .slice r S c, z] 125 :: l) w') := by
 refine enter Tryz.func102 rfl Tryz.ntmps102 (Nat.le_of_ble_eq_true rfl) ?_; intro aa hS
 refine wp_seq_k ?_; intro K402 hK402
 refine wp_region_lit ?_
 revert aa
 refine qN hR ?_
 intro aa hS
 refine wpList_nil ?_
 refine hK402 _ _ ?_
 refine wp_seq_k ?_; intro K403 hK403
 refine wp_region_lit ?_
 revert aa
 refine qM hR ?_
 refine qA hR rfl (fun _ hS => Yld.geq hS rfl rfl) ?_
 refine qM hR ?_
 intro aa hS
 refine hS.splitB (t := 7) rfl ?_ ?_ <;> clear hS
 ·
  intro hg hS
  revert aa
  refine qMg hR ?_
  refine qMg hR ?_
  refine qAg hR rfl rfl rfl (fun _ hS => Yld.nilCheck hS rfl) ?_
  refine qAg hR rfl rfl rfl (fun _ hS => Yld.fieldAddr hS rfl 1 Tryz.underlying125 rfl rfl info36 (by decide)) ?_
  refine qAg hR rfl rfl rfl (fun _ hS => Yld.load1 hS rfl Tryz.underlying36 rfl rdQ) ?_
  refine qAg hR rfl rfl rfl (fun _ hS => Yld.len hS rfl Tryz.underlying36) ?_
  refine qAg hR rfl rfl rfl (fun _ hS => Yld.lss hS rfl rfl) ?_
  refine qA hR rfl (fun _ hS => Yld.pickT hS rfl rfl) ?_
  refine qN hR ?_
  intro aa hS
  refine wpList_nil ?_
  refine hK403 _ _ ?_
  refine wp_ret ?_
  repeat first | with_reducible refine thenR ?_ | with_reducible refine blockR ?_ | with_reducible refine scopeR ?_
  refine ret1 (fn := Tryz.f102) (e := .ret) (.inl rfl) Tryz.results102 hS hR ⟨_, (.tmp rfl), ?_⟩
  refine ⟨?_, (hR.sub exQ)⟩
  first | exact dec_iff (by constructor <;> intro h <;> omega) | exact dec_no (by omega)| exact dec_yes (by omega)
 ·
  intro hg hS
  revert aa
  refine qZ ?_
  refine qZ ?_
  refine qZ ?_
  refine qZ ?_
  refine qZ ?_
  refine qZ ?_
  refine qZ ?_
  refine qA hR rfl (fun _ hS => Yld.pickF hS rfl rfl) ?_
  refine qN hR ?_
  intro aa hS
  refine wpList_nil ?_
  refine hK403 _ _ ?_
  refine wp_ret ?_
  repeat first | with_reducible refine thenR ?_ | with_reducible refine blockR ?_ | with_reducible refine scopeR ?_
  refine ret1 (fn := Tryz.f102) (e := .ret) (.inl rfl) Tryz.results102 hS hR ⟨_, (.tmp rfl), ?_⟩
  refine ⟨?_, (hR.sub exQ)⟩
  first | exact dec_iff (by constructor <;> intro h <;> omega) | exact dec_no (by omega)| exact dec_yes (by omega)
theorem lrNew_ok {S : Nat} {l : List HP} {w : World} (hR : Sep l w) (h1 : 1 ≤ S) (h2 : S ≤ 4096) : CallR Tryz.prog 71 [.int .i64 (S : Int)] w (fun v w' => ∃ b, v = .tuple [.pointer (some ⟨b, 0, none⟩), .int .i64 0].toArray ∧ Sep (lruA 125 183 180 3 b S [] (fun _ => 0) 0 :: l) w') := by
 refine enter Tryz.func71 rfl Tryz.ntmps71 (Nat.le_of_ble_eq_true rfl) ?_; intro aa hS
 refine wp_seq_k ?_; intro K409 hK409
 refine wp_region_lit ?_
 revert aa
 refine qN hR ?_
 refine qN hR ?_
 intro aa hS
 refine wpList_nil ?_
 refine hK409 _ _ ?_
 refine wp_seq_k ?_; intro K410 hK410
 refine wp_seq_k ?_; intro K411 hK411
 refine wp_region_lit ?_
 revert aa
 refine qM hR ?_
 refine qA hR rfl (fun _ hS => Yld.lss hS rfl rfl) ?_
 refine qB (t := 7) false rfl (by exact decide_eq_false (by omega)) ?_
 refine qM hR ?_
 refine qMg hR ?_
 refine qAg hR rfl rfl rfl (fun _ hS => Yld.gtr hS rfl rfl) ?_
 refine qB (t := 10) false rfl (by exact decide_eq_false (by omega)) ?_
 refine qA hR rfl (fun _ hS => Yld.pickF hS rfl rfl) ?_
 intro aa hS
 refine wpList_nil ?_
 refine hK411 _ _ ?_
 refine condF hS rfl ?_
 refine wp_skip ?_
 refine hK410 _ _ ?_
 refine wp_seq_k ?_; intro K412 hK412
 refine wp_region_lit ?_
 revert aa
 refine qM hR ?_
 intro aa hS
 refine sB (Bcall hS rfl Tryz.call108 (LNew_ok (S := S) (n := 1) hR (by omega) (by omega) (by decide) (by decide)) (by decide) ?_); clear hS; intro aa ww vv hS hp
 clear hR
 obtain ⟨bl, rfl, hR⟩ := hp
 revert aa
 refine qM hR ?_
 refine qX hR ?_
 refine qX hR ?_
 refine qN hR ?_
 refine qN hR ?_
 intro aa hS
 refine wpList_nil ?_
 refine hK412 _ _ ?_
 refine wp_seq_k ?_; intro K413 hK413
 refine wp_seq_k ?_; intro K414 hK414
 refine wp_region_lit ?_
 revert aa
 refine qM hR ?_
 refine qA hR rfl (fun _ hS => Yld.neq hS rfl rfl) ?_
 refine qB (t := 18) false rfl (by rfl) ?_
 intro aa hS
 refine wpList_nil ?_
 refine hK414 _ _ ?_
 refine condF hS rfl ?_
 refine wp_skip ?_
 refine hK413 _ _ ?_
 refine wp_seq_k ?_; intro K415 hK415
 refine wp_region_lit ?_
 revert aa
 refine qM hR ?_
 refine qM hR ?_
 intro aa hS
 refine sB (Bmake (zc := [.int .i64 0]) hS hR rfl rfl Tryz.underlying36 info3 rfl (by rfl) (by rfl) (by decide) (by omega) (by show ((8 : Nat) : Int) * _ ≤ _; omega) (by omega) (by decide) ?_); clear hS hR; intro aa ww bb22 hS hR
 rw [show ((S : Int)).toNat = S from by omega] at hS hR
 replace hR := hR.pk (r := blk bb22 _ _) pkQ
 rw [new_zeros] at hR
 replace hR := Sep.toRecs (m := S) (sz := 1) (enc := e1) (tab S (fun _ => 0)) hR rfl (by intro _; rfl) (by rw [tab_len])
 refine sA hS hR (Yld.build hS rfl (bld125_0_1 _ _ _ _)) (by decide) ?_; clear hS; intro aa hS
 refine sB (Bbox hS hR rfl (by rfl) (by decide) ?_); clear hS hR; intro aa ww bb24 hS hR
 revert aa
 refine qN hR ?_
 refine qN hR ?_
 intro aa hS
 refine wpList_nil ?_
 refine hK415 _ _ ?_
 refine wp_ret ?_
 repeat first | with_reducible refine thenR ?_ | with_reducible refine blockR ?_ | with_reducible refine scopeR ?_
 refine retN (fn := Tryz.f71) (e := .ret) (.inl rfl) Tryz.results71 hS hR ⟨_, .cons (.tmp rfl) (.cons (.tmp rfl) (.nil)), rfl, ?_⟩
 exact ⟨_, rfl, Sep.lruAI (L := fun _ => []) rfl (hR.sub exQ)⟩
theorem lrSee_ok {S b : Nat} {ord : List Nat} {T : Nat → Int} {now : Int} {l : List HP} {w : World} {i : Int} (hR : Sep (lruA 125 183 180 3 b S ord T now :: l) w) (hn : 0 ≤ now ∧ now ≤ 4611686018427387904) : CallR Tryz.prog 61 [.pointer (some ⟨b, 0, none⟩), .int .i64 i] w (fun v w' => v = seeV S now i ∧ Sep (lruA 125 183 180 3 b S (seeO S ord i) (seeT S T now i) (seeN S now i) :: l) w') := by
 refine enter Tryz.func61 rfl Tryz.ntmps61 (Nat.le_of_ble_eq_true rfl) ?_; intro aa hS
 obtain ⟨bl, r, c, hWL, hbr, hR⟩ := hR.lruAE
 obtain ⟨hnd, hlt, hol⟩ := hWL.ords
 have hs1 := hWL.s1
 have hs2 := hWL.s2
 refine wp_seq_k ?_; intro K416 hK416
 refine wp_region_lit ?_
 revert aa
 refine qN hR ?_
 refine qN hR ?_
 intro aa hS
 refine wpList_nil ?_
 refine hK416 _ _ ?_
 refine wp_seq_k ?_; intro K417 hK417
 refine wp_block ?_
 refine wp_seq_k ?_; intro K418 hK418
 refine wp_region_lit ?_
 revert aa
 refine qM hR ?_
 intro aa hS
 refine sB (Bcall hS rfl Tryz.call75 (lrsome_ok (hR.pk (r := blk b _ _) pkQ)) (by decide) ?_); clear hS; intro aa ww vv hS hp
 clear hR
 obtain ⟨rfl, hR⟩ := hp
 revert aa
 refine qA hR rfl (fun _ hS => Yld.not hS rfl) ?_
 refine qN hR ?_
 intro aa hS
 refine wpList_nil ?_
 refine hK418 _ _ ?_
 refine condF hS rfl ?_
 refine wp_seq_k ?_; intro K419 hK419
 refine wp_region_lit ?_
 revert aa
 refine qM hR ?_
 refine qM hR ?_
 intro aa hS
 refine sB (Bcall hS rfl Tryz.call102 (lrslot_ok (hR.pk (r := blk b _ _) pkQ)) (by decide) ?_); clear hS; intro aa ww vv hS hp
 clear hR
 obtain ⟨rfl, hR⟩ := hp
 revert aa
 refine qA hR rfl (fun _ hS => Yld.not hS rfl) ?_
 refine qN hR ?_
 intro aa hS
 refine wpList_nil ?_
 refine hK419 _ _ ?_
 refine hS.splitB (t := 10) rfl ?_ ?_ <;> clear hS
 ·
  intro hg hS
  refine condT hS rfl ?_
  refine wp_seq_k ?_; intro K420 hK420
  refine wp_region_lit ?_
  revert aa
  refine qN hR ?_
  refine qN hR ?_
  intro aa hS
  refine wpList_nil ?_
  refine hK420 _ _ ?_
  refine wp_ret ?_
  repeat first | with_reducible refine thenR ?_ | with_reducible refine blockR ?_ | with_reducible refine scopeR ?_
  refine retN (fn := Tryz.f61) (e := .ret) (.inl rfl) Tryz.results61 hS hR ⟨_, .cons (.tmp rfl) (.cons (.tmp rfl) (.nil)), rfl, ?_⟩
  have hbad : ¬ (0 ≤ i ∧ i < S) := by omega
  refine ⟨by rw [seeV, if_neg hbad], ?_⟩
  rw [seeO, seeT, seeN, if_neg hbad, if_neg hbad, if_neg hbad]
  exact Sep.lruAI (TU := 125) (TL := 183) (TN := 180) (TI := 3) (b := b) rfl (hR.sub exQ)
 ·
  intro hg hS
  obtain ⟨i, rfl⟩ : ∃ z9 : Nat, i = z9 := ⟨(i).toNat, by omega⟩
  have hi : i < S := by omega
  refine condF hS rfl ?_
  refine wp_skip ?_
  refine hK417 _ _ ?_
  refine wp_seq_k ?_; intro K421 hK421
  refine wp_region_lit ?_
  revert aa
  refine qM hR ?_
  refine qA hR rfl (fun _ hS => Yld.nilCheck hS rfl) ?_
  refine qA hR rfl (fun _ hS => Yld.fieldAddr hS rfl 0 Tryz.underlying125 rfl rfl info123 (by decide)) ?_
  refine qA hR rfl (fun _ hS => Yld.load1 hS rfl Tryz.underlying123 rfl rdQ) ?_
  refine qM hR ?_
  intro aa hS
  refine sB (Bcall hS rfl Tryz.call103 (LOut_ok (x := (i : Int)) (hR.pk (r := linksA _ _ _ _ _ _ _) pkQ)) (by decide) ?_); clear hS; intro aa ww vv hS hp
  clear hR
  obtain ⟨rfl, hR⟩ := hp
  refine wpList_nil ?_
  refine hK421 _ _ ?_
  refine wp_seq_k ?_; intro K422 hK422
  refine wp_region_lit ?_
  revert aa
  refine qM hR ?_
  refine qA hR rfl (fun _ hS => Yld.nilCheck hS rfl) ?_
  refine qA hR rfl (fun _ hS => Yld.fieldAddr hS rfl 0 Tryz.underlying125 rfl rfl info123 (by decide)) ?_
  refine qA hR rfl (fun _ hS => Yld.load1 hS rfl Tryz.underlying123 rfl rdQ) ?_
  refine qM hR ?_
  intro aa hS
  refine sB (Bcall hS rfl Tryz.call104 (LBack_ok (x := 0) (y := (i : Int)) (hR.pk (r := linksA _ _ _ _ _ _ _) pkQ)) (by decide) ?_); clear hS; intro aa ww vv hS hp
  clear hR
  obtain ⟨rfl, hR⟩ := hp
  refine wpList_nil ?_
  refine hK422 _ _ ?_
  refine wp_seq_k ?_; intro K423 hK423
  refine wp_region_lit ?_
  revert aa
  refine qM hR ?_
  refine qA hR rfl (fun _ hS => Yld.nilCheck hS rfl) ?_
  refine qA hR rfl (fun _ hS => Yld.fieldAddr hS rfl 2 Tryz.underlying125 rfl rfl info3 (by decide)) ?_
  refine qA hR rfl (fun _ hS => Yld.load1 hS rfl Tryz.underlying3 rfl rdQ) ?_
  intro aa hS
  refine sA hS hR adQ (by decide) ?_; clear hS; intro aa hS
  revert aa
  refine qA hR rfl (fun _ hS => Yld.nilCheck hS rfl) ?_
  refine qA hR rfl (fun _ hS => Yld.fieldAddr hS rfl 2 Tryz.underlying125 rfl rfl info3 (by decide)) ?_
  intro aa hS
  refine sB (Bstore hS hR rfl rfl (by rfl) info3 (by rfl) pkQ (by rfl) (Nat.le_of_ble_eq_true rfl) ?_); clear hR; intro ww hR
  refine wpList_nil ?_
  refine hK423 _ _ ?_
  refine wp_seq_k ?_; intro K424 hK424
  refine drawn krQ hR (Ex.of_pk (r := sls r _ _ _ _ _) pkQ) ?_; clear hR; intro ww hR hR0
  revert aa
  refine eA 0 rfl krQ (fun _ _ _ h => h) hR0 rfl (fun _ hS => Yld.move hS rfl) ?_
  refine eA 1 rfl krQ (fun _ _ _ h => h) hR0 rfl (fun _ hS => Yld.nilCheck hS rfl) ?_
  refine eA 2 rfl krQ (fun _ _ _ h => h) hR0 rfl (fun _ hS => Yld.fieldAddr hS rfl 1 Tryz.underlying125 rfl rfl info36 (by decide)) ?_
  refine eA 3 rfl krQ (fun _ _ _ h => h) hR0 rfl (fun _ hS => Yld.load1 hS rfl Tryz.underlying36 rfl rdQ) ?_
  refine eA 4 rfl krQ (fun _ _ _ h => h) hR0 rfl (fun _ hS => Yld.move hS rfl) ?_
  refine eA 5 rfl krQ (fun _ _ _ h => h) hR0 rfl (fun _ hS => Yld.move hS rfl) ?_
  refine eA 6 rfl krQ (fun _ _ _ h => h) hR0 rfl (fun _ hS => Yld.nilCheck hS rfl) ?_
  refine eA 7 rfl krQ (fun _ _ _ h => h) hR0 rfl (fun _ hS => Yld.fieldAddr hS rfl 2 Tryz.underlying125 rfl rfl info3 (by decide)) ?_
  refine eA 8 rfl krQ (fun _ _ _ h => h) hR0 rfl (fun _ hS => Yld.load1 hS rfl Tryz.underlying3 rfl rdQ) ?_
  refine eA 9 rfl krQ (fun _ _ _ h => h) hR0 rfl (fun _ hS => ihQ 1 (i) Tryz.underlying36 info3) ?_
  intro aa hS
  refine dOne (i := 10) krQ ?_
  refine dop rfl (BstoreR0 (now + 1) hS hR rfl rfl (by rfl) info3 (by rfl) pkQ (by rfl) (by intro _; rfl) (by first | omega | (rw [tab_len]; omega)) (by first | exact Nat.le_of_ble_eq_true rfl | (simp only [List.length_singleton]; omega)) (Nat.le_of_ble_eq_true rfl) (by rfl) ?_); clear hR hR0; intro ww hR
  refine dnext (hR.sub exQ) ?_; intro hR0
  rw [tab_set] at hR
  refine wpAnyH_done krQ ?_ _; clear hR0
  refine hK424 _ _ ?_
  refine wp_seq_k ?_; intro K425 hK425
  refine wp_region_lit ?_
  revert aa
  refine qM hR ?_
  refine qA hR rfl (fun _ hS => Yld.nilCheck hS rfl) ?_
  refine qA hR rfl (fun _ hS => Yld.fieldAddr hS rfl 2 Tryz.underlying125 rfl rfl info3 (by decide)) ?_
  intro aa hS
  refine sA hS hR (Yld.load1 hS rfl Tryz.underlying3 rfl rdQ) (by decide) ?_; clear hS; intro aa hS
  revert aa
  refine qN hR ?_
  refine qN hR ?_
  intro aa hS
  refine wpList_nil ?_
  refine hK425 _ _ ?_
  refine wp_ret ?_
  repeat first | with_reducible refine thenR ?_ | with_reducible refine blockR ?_ | with_reducible refine scopeR ?_
  refine retN (fn := Tryz.f61) (e := .ret) (.inl rfl) Tryz.results61 hS hR ⟨_, .cons (.tmp rfl) (.cons (.tmp rfl) (.nil)), rfl, ?_⟩
  have hok : 0 ≤ (i : Int) ∧ (i : Int) < S := by omega
  try dsimp only [lay, List.set] at hR
  refine ⟨by rw [seeV, if_pos hok], ?_⟩
  rw [seeO, seeT, seeN, if_pos hok, if_pos hok, if_pos hok, Int.toNat_natCast]
  exact Sep.lruAI (TU := 125) (TL := 183) (TN := 180) (TI := 3) (b := b) (one_see hWL hi) (hR.sub exQ)
theorem lrOut_ok {S b : Nat} {ord : List Nat} {T : Nat → Int} {now : Int} {l : List HP} {w : World} {i : Int} (hR : Sep (lruA 125 183 180 3 b S ord T now :: l) w) : CallR Tryz.prog 60 [.pointer (some ⟨b, 0, none⟩), .int .i64 i] w (fun v w' => v = .int .i64 (loutE S ord i) ∧ Sep (lruA 125 183 180 3 b S (loutO S ord i) T now :: l) w') := by
 refine enter Tryz.func60 rfl Tryz.ntmps60 (Nat.le_of_ble_eq_true rfl) ?_; intro aa hS
 obtain ⟨bl, r, c, hWL, hbr, hR⟩ := hR.lruAE
 obtain ⟨hnd, hlt, hol⟩ := hWL.ords
 have hs1 := hWL.s1
 have hs2 := hWL.s2
 refine wp_seq_k ?_; intro K426 hK426
 refine wp_region_lit ?_
 revert aa
 refine qN hR ?_
 intro aa hS
 refine wpList_nil ?_
 refine hK426 _ _ ?_
 refine wp_seq_k ?_; intro K427 hK427
 refine wp_block ?_
 refine wp_seq_k ?_; intro K428 hK428
 refine wp_region_lit ?_
 revert aa
 refine qM hR ?_
 intro aa hS
 refine sB (Bcall hS rfl Tryz.call75 (lrsome_ok (hR.pk (r := blk b _ _) pkQ)) (by decide) ?_); clear hS; intro aa ww vv hS hp
 clear hR
 obtain ⟨rfl, hR⟩ := hp
 revert aa
 refine qA hR rfl (fun _ hS => Yld.not hS rfl) ?_
 refine qN hR ?_
 intro aa hS
 refine wpList_nil ?_
 refine hK428 _ _ ?_
 refine condF hS rfl ?_
 refine wp_seq_k ?_; intro K429 hK429
 refine wp_region_lit ?_
 revert aa
 refine qM hR ?_
 refine qM hR ?_
 intro aa hS
 refine sB (Bcall hS rfl Tryz.call102 (lrslot_ok (hR.pk (r := blk b _ _) pkQ)) (by decide) ?_); clear hS; intro aa ww vv hS hp
 clear hR
 obtain ⟨rfl, hR⟩ := hp
 revert aa
 refine qA hR rfl (fun _ hS => Yld.not hS rfl) ?_
 refine qN hR ?_
 intro aa hS
 refine wpList_nil ?_
 refine hK429 _ _ ?_
 refine hS.splitB (t := 9) rfl ?_ ?_ <;> clear hS
 ·
  intro hg hS
  refine condT hS rfl ?_
  refine wp_seq_k ?_; intro K430 hK430
  refine wp_region_lit ?_
  revert aa
  refine qN hR ?_
  intro aa hS
  refine wpList_nil ?_
  refine hK430 _ _ ?_
  refine wp_ret ?_
  repeat first | with_reducible refine thenR ?_ | with_reducible refine blockR ?_ | with_reducible refine scopeR ?_
  refine ret1 (fn := Tryz.f60) (e := .ret) (.inl rfl) Tryz.results60 hS hR ⟨_, (.tmp rfl), ?_⟩
  have hbad : ¬ (0 ≤ i ∧ i < S) := by omega
  refine ⟨by rw [loutE, if_neg hbad], ?_⟩
  rw [loutO, if_neg hbad]
  exact Sep.lruAI (TU := 125) (TL := 183) (TN := 180) (TI := 3) (b := b) rfl (hR.sub exQ)
 ·
  intro hg hS
  obtain ⟨i, rfl⟩ : ∃ z9 : Nat, i = z9 := ⟨(i).toNat, by omega⟩
  have hi : i < S := by omega
  refine condF hS rfl ?_
  refine wp_skip ?_
  refine hK427 _ _ ?_
  refine wp_seq_k ?_; intro K431 hK431
  refine wp_region_lit ?_
  revert aa
  refine qM hR ?_
  refine qA hR rfl (fun _ hS => Yld.nilCheck hS rfl) ?_
  refine qA hR rfl (fun _ hS => Yld.fieldAddr hS rfl 0 Tryz.underlying125 rfl rfl info123 (by decide)) ?_
  refine qA hR rfl (fun _ hS => Yld.load1 hS rfl Tryz.underlying123 rfl rdQ) ?_
  refine qM hR ?_
  intro aa hS
  refine sB (Bcall hS rfl Tryz.call103 (LOut_ok (x := (i : Int)) (hR.pk (r := linksA _ _ _ _ _ _ _) pkQ)) (by decide) ?_); clear hS; intro aa ww vv hS hp
  clear hR
  obtain ⟨rfl, hR⟩ := hp
  rw [one_outE hi] at hS
  revert aa
  refine qN hR ?_
  intro aa hS
  refine wpList_nil ?_
  refine hK431 _ _ ?_
  refine wp_ret ?_
  repeat first | with_reducible refine thenR ?_ | with_reducible refine blockR ?_ | with_reducible refine scopeR ?_
  refine ret1 (fn := Tryz.f60) (e := .ret) (.inl rfl) Tryz.results60 hS hR ⟨_, (.tmp rfl), ?_⟩
  have hok : 0 ≤ (i : Int) ∧ (i : Int) < S := by omega
  refine ⟨by rw [loutE, if_pos hok, Int.toNat_natCast], ?_⟩
  rw [loutO, if_pos hok, Int.toNat_natCast]
  exact Sep.lruAI (TU := 125) (TL := 183) (TN := 180) (TI := 3) (b := b) (one_out hi) (hR.sub exQ)
theorem lrOldest_ok {S b : Nat} {ord : List Nat} {T : Nat → Int} {now : Int} {l : List HP} {w : World} (hR : Sep (lruA 125 183 180 3 b S ord T now :: l) w) : CallR Tryz.prog 55 [.pointer (some ⟨b, 0, none⟩)] w (fun v w' => v = optV ((dirL 0 ord).head?) ∧ Sep (lruA 125 183 180 3 b S ord T now :: l) w') := by
 refine enter Tryz.func55 rfl Tryz.ntmps55 (Nat.le_of_ble_eq_true rfl) ?_; intro aa hS
 obtain ⟨bl, r, c, hWL, hbr, hR⟩ := hR.lruAE
 obtain ⟨hnd, hlt, hol⟩ := hWL.ords
 have hs1 := hWL.s1
 have hs2 := hWL.s2
 refine wp_seq_k ?_; intro K432 hK432
 refine wp_region_lit ?_
 revert aa
 refine qN hR ?_
 refine qN hR ?_
 intro aa hS
 refine wpList_nil ?_
 refine hK432 _ _ ?_
 refine wp_seq_k ?_; intro K433 hK433
 refine wp_seq_k ?_; intro K434 hK434
 refine wp_region_lit ?_
 revert aa
 refine qM hR ?_
 intro aa hS
 refine sB (Bcall hS rfl Tryz.call75 (lrsome_ok (hR.pk (r := blk b _ _) pkQ)) (by decide) ?_); clear hS; intro aa ww vv hS hp
 clear hR
 obtain ⟨rfl, hR⟩ := hp
 refine sA hS hR (Yld.not hS rfl) (by decide) ?_; clear hS; intro aa hS
 refine wpList_nil ?_
 refine hK434 _ _ ?_
 refine condF hS rfl ?_
 refine wp_skip ?_
 refine hK433 _ _ ?_
 refine wp_seq_k ?_; intro K435 hK435
 refine wp_region_lit ?_
 revert aa
 refine qM hR ?_
 refine qA hR rfl (fun _ hS => Yld.nilCheck hS rfl) ?_
 refine qA hR rfl (fun _ hS => Yld.fieldAddr hS rfl 0 Tryz.underlying125 rfl rfl info123 (by decide)) ?_
 refine qA hR rfl (fun _ hS => Yld.load1 hS rfl Tryz.underlying123 rfl rdQ) ?_
 intro aa hS
 refine sB (Bcall hS rfl Tryz.call94 (LFirst_ok (x := 0) (hR.pk (r := linksA _ _ _ _ _ _ _) pkQ)) (by decide) ?_); clear hS; intro aa ww vv hS hp
 clear hR
 obtain ⟨rfl, hR⟩ := hp
 revert aa
 refine qX hR ?_
 refine qX hR ?_
 refine qN hR ?_
 refine qN hR ?_
 intro aa hS
 refine wpList_nil ?_
 refine hK435 _ _ ?_
 refine wp_ret ?_
 repeat first | with_reducible refine thenR ?_ | with_reducible refine blockR ?_ | with_reducible refine scopeR ?_
 refine retN (fn := Tryz.f55) (e := .ret) (.inl rfl) Tryz.results55 hS hR ⟨_, .cons (.tmp rfl) (.cons (.tmp rfl) (.nil)), rfl, ?_⟩
 exact ⟨rfl, Sep.lruAI (TU := 125) (TL := 183) (TN := 180) (TI := 3) (b := b) rfl (hR.sub exQ)⟩
theorem lrWhen_ok {S b : Nat} {ord : List Nat} {T : Nat → Int} {now : Int} {l : List HP} {w : World} {i : Int} (hR : Sep (lruA 125 183 180 3 b S ord T now :: l) w) : CallR Tryz.prog 39 [.pointer (some ⟨b, 0, none⟩), .int .i64 i] w (fun v w' => v = whenV S ord T i ∧ Sep (lruA 125 183 180 3 b S ord T now :: l) w') := by
 refine enter Tryz.func39 rfl Tryz.ntmps39 (Nat.le_of_ble_eq_true rfl) ?_; intro aa hS
 obtain ⟨bl, r, c, hWL, hbr, hR⟩ := hR.lruAE
 obtain ⟨hnd, hlt, hol⟩ := hWL.ords
 have hs1 := hWL.s1
 have hs2 := hWL.s2
 refine wp_seq_k ?_; intro K436 hK436
 refine wp_region_lit ?_
 revert aa
 refine qN hR ?_
 refine qN hR ?_
 intro aa hS
 refine wpList_nil ?_
 refine hK436 _ _ ?_
 refine wp_seq_k ?_; intro K437 hK437
 refine wp_seq_k ?_; intro K438 hK438
 refine wp_region_lit ?_
 revert aa
 refine qM hR ?_
 intro aa hS
 refine sB (Bcall hS rfl Tryz.call75 (lrsome_ok (hR.pk (r := blk b _ _) pkQ)) (by decide) ?_); clear hS; intro aa ww vv hS hp
 clear hR
 obtain ⟨rfl, hR⟩ := hp
 refine sA hS hR (Yld.not hS rfl) (by decide) ?_; clear hS; intro aa hS
 refine wpList_nil ?_
 refine hK438 _ _ ?_
 refine condF hS rfl ?_
 refine wp_skip ?_
 refine hK437 _ _ ?_
 refine wp_seq_k ?_; intro K439 hK439
 refine wp_seq_k ?_; intro K440 hK440
 refine wp_region_lit ?_
 revert aa
 refine qM hR ?_
 refine qA hR rfl (fun _ hS => Yld.nilCheck hS rfl) ?_
 refine qA hR rfl (fun _ hS => Yld.fieldAddr hS rfl 0 Tryz.underlying125 rfl rfl info123 (by decide)) ?_
 refine qA hR rfl (fun _ hS => Yld.load1 hS rfl Tryz.underlying123 rfl rdQ) ?_
 refine qM hR ?_
 intro aa hS
 refine sB (Bcall hS rfl Tryz.call76 (LOf_ok (x := i) (hR.pk (r := linksA _ _ _ _ _ _ _) pkQ)) (by decide) ?_); clear hS; intro aa ww vv hS hp
 clear hR
 obtain ⟨rfl, hR⟩ := hp
 revert aa
 refine qM hR ?_
 refine qX hR ?_
 refine qX hR ?_
 refine qN hR ?_
 refine qN hR ?_
 intro aa hS
 refine wpList_nil ?_
 refine hK440 _ _ ?_
 refine wp_seq_k ?_; intro K441 hK441
 refine wp_region_lit ?_
 revert aa
 refine qM hR ?_
 refine qA hR rfl (fun _ hS => Yld.not hS rfl) ?_
 intro aa hS
 refine wpList_nil ?_
 refine hK441 _ _ ?_
 refine hS.splitB (t := 21) rfl ?_ ?_ <;> clear hS
 ·
  intro hg hS
  have hbad : ¬ (0 ≤ i ∧ i < S ∧ i.toNat ∈ ord) := fun h => by
   rw [ofS, if_pos ⟨h.1, h.2.1⟩, one_of, if_pos h.2.2] at hg; simp at hg
  refine condT hS rfl ?_
  refine wp_seq_k ?_; intro K442 hK442
  refine wp_region_lit ?_
  revert aa
  refine qN hR ?_
  refine qN hR ?_
  intro aa hS
  refine wpList_nil ?_
  refine hK442 _ _ ?_
  refine wp_ret ?_
  repeat first | with_reducible refine thenR ?_ | with_reducible refine blockR ?_ | with_reducible refine scopeR ?_
  refine retN (fn := Tryz.f39) (e := .ret) (.inl rfl) Tryz.results39 hS hR ⟨_, .cons (.tmp rfl) (.cons (.tmp rfl) (.nil)), rfl, ?_⟩
  refine ⟨by rw [whenV, if_neg hbad], ?_⟩
  exact Sep.lruAI (TU := 125) (TL := 183) (TN := 180) (TI := 3) (b := b) rfl (hR.sub exQ)
 ·
  intro hg hS
  have hok : 0 ≤ i ∧ i < S ∧ i.toNat ∈ ord := by
   by_cases h : 0 ≤ i ∧ i < S
   ·
    rw [ofS, if_pos h, one_of] at hg
    by_cases h2 : i.toNat ∈ ord
    ·
     exact ⟨h.1, h.2, h2⟩
    ·
     rw [if_neg h2] at hg; simp at hg
   ·
    rw [ofS, if_neg h] at hg; simp at hg
  obtain ⟨i, rfl⟩ : ∃ z9 : Nat, i = z9 := ⟨(i).toNat, by omega⟩
  rw [Int.toNat_natCast] at hok
  refine condF hS rfl ?_
  refine wp_skip ?_
  refine hK439 _ _ ?_
  refine wp_seq_k ?_; intro K443 hK443
  refine wp_region_lit ?_
  revert aa
  refine qM hR ?_
  refine qA hR rfl (fun _ hS => Yld.nilCheck hS rfl) ?_
  refine qA hR rfl (fun _ hS => Yld.fieldAddr hS rfl 1 Tryz.underlying125 rfl rfl info36 (by decide)) ?_
  refine qA hR rfl (fun _ hS => Yld.load1 hS rfl Tryz.underlying36 rfl rdQ) ?_
  refine qM hR ?_
  refine qA hR rfl (fun _ hS => ihQ 1 (i) Tryz.underlying36 info3) ?_
  refine qA hR rfl (fun _ hS => Yld.load1 hS rfl Tryz.underlying3 rfl (Rd.rec0 (k := i) (xs := tab S T) (v := .int .i64 (T i)) pkQ (by intro _; rfl) (by rw [tab_len]; omega) (by rw [tab_get]; rfl))) ?_
  refine qN hR ?_
  refine qN hR ?_
  intro aa hS
  refine wpList_nil ?_
  refine hK443 _ _ ?_
  refine wp_ret ?_
  repeat first | with_reducible refine thenR ?_ | with_reducible refine blockR ?_ | with_reducible refine scopeR ?_
  refine retN (fn := Tryz.f39) (e := .ret) (.inl rfl) Tryz.results39 hS hR ⟨_, .cons (.tmp rfl) (.cons (.tmp rfl) (.nil)), rfl, ?_⟩
  refine ⟨by rw [whenV, Int.toNat_natCast, if_pos hok], ?_⟩
  exact Sep.lruAI (TU := 125) (TL := 183) (TN := 180) (TI := 3) (b := b) rfl (hR.sub exQ)
theorem lrLen_ok {S b : Nat} {ord : List Nat} {T : Nat → Int} {now : Int} {l : List HP} {w : World} (hR : Sep (lruA 125 183 180 3 b S ord T now :: l) w) : CallR Tryz.prog 54 [.pointer (some ⟨b, 0, none⟩)] w (fun v w' => v = .int .i64 (ord.length : Int) ∧ Sep (lruA 125 183 180 3 b S ord T now :: l) w') := by
 refine enter Tryz.func54 rfl Tryz.ntmps54 (Nat.le_of_ble_eq_true rfl) ?_; intro aa hS
 obtain ⟨bl, r, c, hWL, hbr, hR⟩ := hR.lruAE
 obtain ⟨hnd, hlt, hol⟩ := hWL.ords
 have hs1 := hWL.s1
 have hs2 := hWL.s2
 refine wp_seq_k ?_; intro K444 hK444
 refine wp_region_lit ?_
 revert aa
 refine qN hR ?_
 intro aa hS
 refine wpList_nil ?_
 refine hK444 _ _ ?_
 refine wp_seq_k ?_; intro K445 hK445
 refine wp_seq_k ?_; intro K446 hK446
 refine wp_region_lit ?_
 revert aa
 refine qM hR ?_
 intro aa hS
 refine sB (Bcall hS rfl Tryz.call75 (lrsome_ok (hR.pk (r := blk b _ _) pkQ)) (by decide) ?_); clear hS; intro aa ww vv hS hp
 clear hR
 obtain ⟨rfl, hR⟩ := hp
 refine sA hS hR (Yld.not hS rfl) (by decide) ?_; clear hS; intro aa hS
 refine wpList_nil ?_
 refine hK446 _ _ ?_
 refine condF hS rfl ?_
 refine wp_skip ?_
 refine hK445 _ _ ?_
 refine wp_seq_k ?_; intro K447 hK447
 refine wp_region_lit ?_
 revert aa
 refine qM hR ?_
 refine qA hR rfl (fun _ hS => Yld.nilCheck hS rfl) ?_
 refine qA hR rfl (fun _ hS => Yld.fieldAddr hS rfl 0 Tryz.underlying125 rfl rfl info123 (by decide)) ?_
 refine qA hR rfl (fun _ hS => Yld.load1 hS rfl Tryz.underlying123 rfl rdQ) ?_
 intro aa hS
 refine sB (Bcall hS rfl Tryz.call93 (LLen_ok (x := 0) (hR.pk (r := linksA _ _ _ _ _ _ _) pkQ)) (by decide) ?_); clear hS; intro aa ww vv hS hp
 clear hR
 obtain ⟨rfl, hR⟩ := hp
 rw [one_all] at hS
 revert aa
 refine qN hR ?_
 intro aa hS
 refine wpList_nil ?_
 refine hK447 _ _ ?_
 refine wp_ret ?_
 repeat first | with_reducible refine thenR ?_ | with_reducible refine blockR ?_ | with_reducible refine scopeR ?_
 refine ret1 (fn := Tryz.f54) (e := .ret) (.inl rfl) Tryz.results54 hS hR ⟨_, (.tmp rfl), ?_⟩
 exact ⟨rfl, Sep.lruAI (TU := 125) (TL := 183) (TN := 180) (TI := 3) (b := b) rfl (hR.sub exQ)⟩
end Go.Proofs.YtkhdejjompbklaaGreat.Sx
