/-
 
-/
import Derived.Test.YtkhdejjompbklaaGreatOLrC
import Derived.Test.YtkhdejjompbklaaGreatOPs
namespace Go.Proofs.YtkhdejjompbklaaGreat.Sx
open Go
set_option maxRecDepth 20000
set_option linter.unusedVariables false
set_option linter.unusedSimpArgs false
theorem info126 : Tryz.prog.info? 126 = some Tryz.t126 := by kernel_rfl
theorem info127 : Tryz.prog.info? 127 = some Tryz.t127 := by kernel_rfl
theorem bld160_1 (x1 : Int) (w : World) : (Instr.build 160 [(1, .int .u32 x1)].toArray).run Tryz.prog w = .ok (.agg [.int .u8 0, .int .u32 x1, .int .u32 0, .int .u16 0, .int .u16 0].toArray) w := by kernel_rfl
abbrev ss : ST := { T := 129, A := 211, N := 208, I := 3, R := 148, S := 174, L := 183, M := 180, U := 25 }
theorem sonone_ok {S lim b bo ba bl c : Nat} {r : Option Addr} {l : List HP} {w : World} (hR : Sep (blk b [.int .i64 (lim : Int), .slice r S c, .pointer (some ⟨bo, 0, none⟩), .pointer (some ⟨ba, 0, none⟩), .pointer (some ⟨bl, 0, none⟩)] 129 :: l) w) : CallR Tryz.prog 77 [.pointer (some ⟨b, 0, none⟩)] w (fun v w' => v = .bool false ∧ Sep (blk b [.int .i64 (lim : Int), .slice r S c, .pointer (some ⟨bo, 0, none⟩), .pointer (some ⟨ba, 0, none⟩), .pointer (some ⟨bl, 0, none⟩)] 129 :: l) w') := by
 refine enter Tryz.func77 rfl Tryz.ntmps77 (Nat.le_of_ble_eq_true rfl) ?_; intro aa hS
 refine wp_seq_k ?_; intro K469 hK469
 refine wp_region_lit ?_
 revert aa
 refine qN hR ?_
 intro aa hS
 refine wpList_nil ?_
 refine hK469 _ _ ?_
 refine wp_seq_k ?_; intro K470 hK470
 refine wp_region_lit ?_
 revert aa
 refine qM hR ?_
 refine qA hR rfl (fun _ hS => Yld.eqlNil hS rfl rfl Tryz.underlying53) ?_
 refine qB (t := 4) false rfl (by rfl) ?_
 refine qM hR ?_
 refine qMg hR ?_
 refine qAg hR rfl rfl rfl (fun _ hS => Yld.nilCheck hS rfl) ?_
 refine qAg hR rfl rfl rfl (fun _ hS => Yld.fieldAddr hS rfl 4 Tryz.underlying129 rfl rfl info123 (by decide)) ?_
 refine qAg hR rfl rfl rfl (fun _ hS => Yld.load1 hS rfl Tryz.underlying123 rfl rdQ) ?_
 refine qAg hR rfl rfl rfl (fun _ hS => Yld.eqlNil hS rfl rfl Tryz.underlying123) ?_
 refine qB (t := 10) false rfl (by rfl) ?_
 refine qA hR rfl (fun _ hS => Yld.pickF hS rfl rfl) ?_
 refine qN hR ?_
 intro aa hS
 refine wpList_nil ?_
 refine hK470 _ _ ?_
 refine wp_ret ?_
 repeat first | with_reducible refine thenR ?_ | with_reducible refine blockR ?_ | with_reducible refine scopeR ?_
 refine ret1 (fn := Tryz.f77) (e := .ret) (.inl rfl) Tryz.results77 hS hR ⟨_, (.tmp rfl), ?_⟩
 exact ⟨rfl, (hR.sub exQ)⟩
theorem soright_ok {S lim b bo ba bl c : Nat} {r : Option Addr} {l : List HP} {w : World} {i : Int} (hR : Sep (blk b [.int .i64 (lim : Int), .slice r S c, .pointer (some ⟨bo, 0, none⟩), .pointer (some ⟨ba, 0, none⟩), .pointer (some ⟨bl, 0, none⟩)] 129 :: l) w) : CallR Tryz.prog 124 [.pointer (some ⟨b, 0, none⟩), .int .i64 i] w (fun v w' => v = .bool (decide (0 ≤ i ∧ i < S)) ∧ Sep (blk b [.int .i64 (lim : Int), .slice r S c, .pointer (some ⟨bo, 0, none⟩), .pointer (some ⟨ba, 0, none⟩), .pointer (some ⟨bl, 0, none⟩)] 129 :: l) w') := by
 refine enter Tryz.func124 rfl Tryz.ntmps124 (Nat.le_of_ble_eq_true rfl) ?_; intro aa hS
 refine wp_seq_k ?_; intro K471 hK471
 refine wp_region_lit ?_
 revert aa
 refine qN hR ?_
 intro aa hS
 refine wpList_nil ?_
 refine hK471 _ _ ?_
 refine wp_seq_k ?_; intro K472 hK472
 refine wp_region_lit ?_
 revert aa
 refine qM hR ?_
 refine qA hR rfl (fun _ hS => Yld.geq hS rfl rfl) ?_
 refine qM hR ?_
 intro aa hS
 refine hS.splitB (t := 7) rfl ?_ ?_ <;> clear hS
 ·
  intro hg hS
  revert aa
  refine qMg hR ?_
  refine qMg hR ?_
  refine qAg hR rfl rfl rfl (fun _ hS => Yld.nilCheck hS rfl) ?_
  refine qAg hR rfl rfl rfl (fun _ hS => Yld.fieldAddr hS rfl 1 Tryz.underlying129 rfl rfl info126 (by decide)) ?_
  refine qAg hR rfl rfl rfl (fun _ hS => Yld.load1 hS rfl Tryz.underlying126 rfl rdQ) ?_
  refine qAg hR rfl rfl rfl (fun _ hS => Yld.len hS rfl Tryz.underlying126) ?_
  refine qAg hR rfl rfl rfl (fun _ hS => Yld.lss hS rfl rfl) ?_
  refine qA hR rfl (fun _ hS => Yld.pickT hS rfl rfl) ?_
  refine qN hR ?_
  intro aa hS
  refine wpList_nil ?_
  refine hK472 _ _ ?_
  refine wp_ret ?_
  repeat first | with_reducible refine thenR ?_ | with_reducible refine blockR ?_ | with_reducible refine scopeR ?_
  refine ret1 (fn := Tryz.f124) (e := .ret) (.inl rfl) Tryz.results124 hS hR ⟨_, (.tmp rfl), ?_⟩
  refine ⟨?_, (hR.sub exQ)⟩
  exact dec_iff (by omega)
 ·
  intro hg hS
  revert aa
  refine qZ ?_
  refine qZ ?_
  refine qZ ?_
  refine qZ ?_
  refine qZ ?_
  refine qZ ?_
  refine qZ ?_
  refine qA hR rfl (fun _ hS => Yld.pickF hS rfl rfl) ?_
  refine qN hR ?_
  intro aa hS
  refine wpList_nil ?_
  refine hK472 _ _ ?_
  refine wp_ret ?_
  repeat first | with_reducible refine thenR ?_ | with_reducible refine blockR ?_ | with_reducible refine scopeR ?_
  refine ret1 (fn := Tryz.f124) (e := .ret) (.inl rfl) Tryz.results124 hS hR ⟨_, (.tmp rfl), ?_⟩
  refine ⟨?_, (hR.sub exQ)⟩
  exact dec_no (by omega)
theorem sokey_ok {a : Int} {l : List HP} {w : World} (hR : Sep l w) : CallR Tryz.prog 100 [.int .u32 a] w (fun v w' => v = vK (kA a) ∧ Sep l w') := by
 refine enter Tryz.func100 rfl Tryz.ntmps100 (Nat.le_of_ble_eq_true rfl) ?_; intro aa hS
 refine wp_seq_k ?_; intro K473 hK473
 refine wp_region_lit ?_
 refine sB (Balloc hS hR info160 (by rfl) (by rfl) (by decide) ?_); clear hS hR; intro aa ww bb2 hS hR
 refine wpList_nil ?_
 refine hK473 _ _ ?_
 refine wp_seq_k ?_; intro K474 hK474
 refine wp_region_lit ?_
 revert aa
 refine qM hR ?_
 refine qA hR rfl (fun _ hS => Yld.build hS rfl (bld160_1 _)) ?_
 intro aa hS
 refine sB (Bstore hS hR rfl rfl (by rfl) info160 (by rfl) pkQ (by rfl) (Nat.le_of_ble_eq_true rfl) ?_); clear hR; intro ww hR
 refine wpList_nil ?_
 refine hK474 _ _ ?_
 refine wp_ret ?_
 repeat first | with_reducible refine thenR ?_ | with_reducible refine blockR ?_ | with_reducible refine scopeR ?_
 refine ret1 (fn := Tryz.f100) (e := .ret) (.inl rfl) Tryz.results100 hS hR ⟨_, (.agg rfl Tryz.underlying160 rfl info160 (Rds.cons (Rd.blk pkQ (by rfl)) (Rds.cons (Rd.blk pkQ (by rfl)) (Rds.cons (Rd.blk pkQ (by rfl)) (Rds.cons (Rd.blk pkQ (by rfl)) (Rds.cons (Rd.blk pkQ (by rfl)) (Rds.nil)))))) (by rfl)), ?_⟩
 try dsimp only [lay, List.set] at hR
 exact ⟨rfl, (hR.sub exQ)⟩
theorem soRecordO_ok {T : So} {us : List Int} {L : Nat → List Nat} {S lim b bo ba bl c : Nat} {r : Option Addr} {a : Int} {l : List HP} {w : World} (hT : SI S lim T L us) (ha : 0 ≤ a ∧ a ≤ 4294967295) (hR : Sep (blk b [.int .i64 (lim : Int), .slice r S c, .pointer (some ⟨bo, 0, none⟩), .pointer (some ⟨ba, 0, none⟩), .pointer (some ⟨bl, 0, none⟩)] 129 :: trieA 211 208 3 bo (ixK T.R) (S : Int) :: linksA 183 180 3 bl S S L :: l) w) : CallR Tryz.prog 58 [.pointer (some ⟨b, 0, none⟩), .int .u32 a] w (fun v w' => v = optV (rcR T.R a) ∧ Sep (blk b [.int .i64 (lim : Int), .slice r S c, .pointer (some ⟨bo, 0, none⟩), .pointer (some ⟨ba, 0, none⟩), .pointer (some ⟨bl, 0, none⟩)] 129 :: trieA 211 208 3 bo (ixK T.R) (S : Int) :: linksA 183 180 3 bl S S L :: l) w') := by
 refine enter Tryz.func58 rfl Tryz.ntmps58 (Nat.le_of_ble_eq_true rfl) ?_; intro aa hS
 refine wp_seq_k ?_; intro K475 hK475
 refine wp_region_lit ?_
 revert aa
 refine qN hR ?_
 refine qN hR ?_
 intro aa hS
 refine wpList_nil ?_
 refine hK475 _ _ ?_
 refine wp_seq_k ?_; intro K476 hK476
 refine wp_seq_k ?_; intro K477 hK477
 refine wp_region_lit ?_
 revert aa
 refine qM hR ?_
 intro aa hS
 refine sB (Bcall hS rfl Tryz.call77 (sonone_ok (hR.pk (r := blk b _ _) pkQ)) (by decide) ?_); clear hS; intro aa ww vv hS hp
 clear hR
 obtain ⟨rfl, hR⟩ := hp
 refine wpList_nil ?_
 refine hK477 _ _ ?_
 refine condF hS rfl ?_
 refine wp_skip ?_
 refine hK476 _ _ ?_
 refine wp_seq_k ?_; intro K478 hK478
 refine drawn krQ hR Ex.refl ?_; clear hR; intro ww hR hR0
 revert aa
 refine eA 0 rfl krQ (fun _ _ _ h => h) hR0 rfl (fun _ hS => Yld.move hS rfl) ?_
 refine eA 1 rfl krQ (fun _ _ _ h => h) hR0 rfl (fun _ hS => Yld.nilCheck hS rfl) ?_
 refine eA 2 rfl krQ (fun _ _ _ h => h) hR0 rfl (fun _ hS => Yld.fieldAddr hS rfl 2 Tryz.underlying129 rfl rfl info127 (by decide)) ?_
 refine eA 3 rfl krQ (fun _ _ _ h => h) hR0 rfl (fun _ hS => Yld.load1 hS rfl Tryz.underlying127 rfl rdQ) ?_
 refine eA 4 rfl krQ (fun _ _ _ h => h) hR0 rfl (fun _ hS => Yld.move hS rfl) ?_
 intro aa hS
 refine dOne (i := 5) krQ ?_
 refine dop rfl (Bcall hS rfl Tryz.call100 (sokey_ok hR) (by decide) ?_); clear hS; intro aa ww vv hS hp
 clear hR hR0
 obtain ⟨rfl, hR⟩ := hp
 refine dnext (hR.sub exQ) ?_; intro hR0
 refine dOne (i := 6) krQ ?_
 refine dop rfl (Bcall hS rfl Tryz.call99 (Get_ok (k := kA a) (hR.pk (r := trieA _ _ _ bo _ _) pkQ) (kA_wf ha)) (by decide) ?_); clear hS; intro aa ww vv hS hp
 clear hR hR0
 obtain ⟨rfl, hR⟩ := hp
 refine dnext (hR.sub exQ) ?_; intro hR0
 revert aa
 refine eA 7 rfl krQ (fun _ _ _ h => h) hR0 rfl (fun _ hS => Yld.extract hS rfl rfl) ?_
 refine eA 8 rfl krQ (fun _ _ _ h => h) hR0 rfl (fun _ hS => Yld.extract hS rfl rfl) ?_
 refine eA 9 rfl krQ (fun _ _ _ h => h) hR0 rfl (fun _ hS => Yld.assign hS rfl) ?_
 refine eA 10 rfl krQ (fun _ _ _ h => h) hR0 rfl (fun _ hS => Yld.assign hS rfl) ?_
 intro aa hS
 refine wpAnyH_done krQ ?_ _; clear hR0
 refine hK478 _ _ ?_
 refine wp_ret ?_
 repeat first | with_reducible refine thenR ?_ | with_reducible refine blockR ?_ | with_reducible refine scopeR ?_
 refine retN (fn := Tryz.f58) (e := .ret) (.inl rfl) Tryz.results58 hS hR ⟨_, .cons (.tmp rfl) (.cons (.tmp rfl) (.nil)), rfl, ?_⟩
 exact ⟨ix_optV, (hR.sub exQ)⟩
theorem soCountO_ok {T : So} {us : List Int} {L : Nat → List Nat} {S lim b bo ba bl c : Nat} {r : Option Addr} {a : Int} {l : List HP} {w : World} (hT : SI S lim T L us) (ha : 0 ≤ a ∧ a ≤ 4294967295) (hR : Sep (blk b [.int .i64 (lim : Int), .slice r S c, .pointer (some ⟨bo, 0, none⟩), .pointer (some ⟨ba, 0, none⟩), .pointer (some ⟨bl, 0, none⟩)] 129 :: trieA 211 208 3 bo (ixK T.R) (S : Int) :: linksA 183 180 3 bl S S L :: l) w) : CallR Tryz.prog 63 [.pointer (some ⟨b, 0, none⟩), .int .u32 a] w (fun v w' => v = .int .i64 ((slO T.O a).length : Int) ∧ Sep (blk b [.int .i64 (lim : Int), .slice r S c, .pointer (some ⟨bo, 0, none⟩), .pointer (some ⟨ba, 0, none⟩), .pointer (some ⟨bl, 0, none⟩)] 129 :: trieA 211 208 3 bo (ixK T.R) (S : Int) :: linksA 183 180 3 bl S S L :: l) w') := by
 refine enter Tryz.func63 rfl Tryz.ntmps63 (Nat.le_of_ble_eq_true rfl) ?_; intro aa hS
 refine wp_seq_k ?_; intro K479 hK479
 refine wp_region_lit ?_
 revert aa
 refine qN hR ?_
 intro aa hS
 refine wpList_nil ?_
 refine hK479 _ _ ?_
 refine wp_seq_k ?_; intro K480 hK480
 refine wp_region_lit ?_
 revert aa
 refine qM hR ?_
 refine qM hR ?_
 intro aa hS
 refine sB (Bcall hS rfl Tryz.call58 (soRecordO_ok hT ha (((hR.pk (r := linksA _ _ _ bl _ _ _) pkQ).pk (r := trieA _ _ _ bo _ _) pkQ).pk (r := blk b _ _) pkQ)) (by decide) ?_); clear hS; intro aa ww vv hS hp
 clear hR
 obtain ⟨rfl, hR⟩ := hp
 obtain ⟨o, ho⟩ : ∃ y, rcR T.R a = y := ⟨_, rfl⟩
 rw [ho] at hS
 revert aa
 refine qM hR ?_
 refine qX hR ?_
 refine qX hR ?_
 intro aa hS
 refine hS.splitB (t := 12) rfl ?_ ?_ <;> clear hS
 ·
  intro hg hS
  obtain ⟨q, rfl⟩ := Option.isSome_iff_exists.1 hg
  revert aa
  refine qN hR ?_
  refine qN hR ?_
  intro aa hS
  refine wpList_nil ?_
  refine hK480 _ _ ?_
  refine wp_seq_k ?_; intro K481 hK481
  refine wp_seq_k ?_; intro K482 hK482
  refine wp_region_lit ?_
  revert aa
  refine qM hR ?_
  refine qA hR rfl (fun _ hS => Yld.not hS rfl) ?_
  intro aa hS
  refine wpList_nil ?_
  refine hK482 _ _ ?_
  refine condF hS rfl ?_
  refine wp_skip ?_
  refine hK481 _ _ ?_
  refine wp_seq_k ?_; intro K483 hK483
  refine wp_region_lit ?_
  revert aa
  refine qM hR ?_
  refine qA hR rfl (fun _ hS => Yld.nilCheck hS rfl) ?_
  refine qA hR rfl (fun _ hS => Yld.fieldAddr hS rfl 4 Tryz.underlying129 rfl rfl info123 (by decide)) ?_
  refine qA hR rfl (fun _ hS => Yld.load1 hS rfl Tryz.underlying123 rfl rdQ) ?_
  refine qM hR ?_
  intro aa hS
  refine sB (Bcall hS rfl Tryz.call93 (LLen_ok (x := (q : Int)) (hR.pk (r := linksA _ _ _ bl _ _ _) pkQ)) (by decide) ?_); clear hS; intro aa ww vv hS hp
  clear hR
  obtain ⟨rfl, hR⟩ := hp
  rw [hT.all ho] at hS
  revert aa
  refine qN hR ?_
  intro aa hS
  refine wpList_nil ?_
  refine hK483 _ _ ?_
  refine wp_ret ?_
  repeat first | with_reducible refine thenR ?_ | with_reducible refine blockR ?_ | with_reducible refine scopeR ?_
  refine ret1 (fn := Tryz.f63) (e := .ret) (.inl rfl) Tryz.results63 hS hR ⟨_, (.tmp rfl), ?_⟩
  exact ⟨rfl, (hR.sub exQ)⟩
 ·
  intro hg hS
  obtain rfl : o = none := by cases o with
   | none => rfl
   | some q => simp at hg
  revert aa
  refine qN hR ?_
  refine qN hR ?_
  intro aa hS
  refine wpList_nil ?_
  refine hK480 _ _ ?_
  refine wp_seq_k ?_; intro K484 hK484
  refine wp_seq_k ?_; intro K485 hK485
  refine wp_region_lit ?_
  revert aa
  refine qM hR ?_
  refine qA hR rfl (fun _ hS => Yld.not hS rfl) ?_
  intro aa hS
  refine wpList_nil ?_
  refine hK485 _ _ ?_
  refine condT hS rfl ?_
  refine wp_seq_k ?_; intro K486 hK486
  refine wp_region_lit ?_
  revert aa
  refine qN hR ?_
  intro aa hS
  refine wpList_nil ?_
  refine hK486 _ _ ?_
  refine wp_ret ?_
  repeat first | with_reducible refine thenR ?_ | with_reducible refine blockR ?_ | with_reducible refine scopeR ?_
  refine ret1 (fn := Tryz.f63) (e := .ret) (.inl rfl) Tryz.results63 hS hR ⟨_, (.tmp rfl), ?_⟩
  rw [hT.sf.slNil ho]
  exact ⟨rfl, (hR.sub exQ)⟩
theorem soRecord_ok {T : So} {S lim b : Nat} {l : List HP} {w : World} {a : Int} (ha : 0 ≤ a ∧ a ≤ 4294967295) (hR : Sep (sourceA ss b S lim T :: l) w) : CallR Tryz.prog 58 [.pointer (some ⟨b, 0, none⟩), .int .u32 a] w (fun v w' => v = optV (rcR T.R a) ∧ Sep (sourceA ss b S lim T :: l) w') := by
 obtain ⟨bo, ba, bl, r, c, L, us, hT, hS4, hl6, hR⟩ := hR.sourceE
 refine CallR.mono (soRecordO_ok hT ha (hR.sub exQ)) ?_; clear hR; intro vv ww hR; obtain ⟨hv, hR⟩ := hR; exact ⟨hv, Sep.sourceI (t := ss) (b := b) (T := T) hT hS4 hl6 (hR.sub exQ)⟩
theorem soCount_ok {T : So} {S lim b : Nat} {l : List HP} {w : World} {a : Int} (ha : 0 ≤ a ∧ a ≤ 4294967295) (hR : Sep (sourceA ss b S lim T :: l) w) : CallR Tryz.prog 63 [.pointer (some ⟨b, 0, none⟩), .int .u32 a] w (fun v w' => v = .int .i64 ((slO T.O a).length : Int) ∧ Sep (sourceA ss b S lim T :: l) w') := by
 obtain ⟨bo, ba, bl, r, c, L, us, hT, hS4, hl6, hR⟩ := hR.sourceE
 refine CallR.mono (soCountO_ok hT ha (hR.sub exQ)) ?_; clear hR; intro vv ww hR; obtain ⟨hv, hR⟩ := hR; exact ⟨hv, Sep.sourceI (t := ss) (b := b) (T := T) hT hS4 hl6 (hR.sub exQ)⟩
theorem soRoom_ok {T : So} {S lim b : Nat} {l : List HP} {w : World} {a : Int} (ha : 0 ≤ a ∧ a ≤ 4294967295) (hR : Sep (sourceA ss b S lim T :: l) w) : CallR Tryz.prog 51 [.pointer (some ⟨b, 0, none⟩), .int .u32 a] w (fun v w' => v = .int .i64 ((lim : Int) - ((slO T.O a).length : Int)) ∧ Sep (sourceA ss b S lim T :: l) w') := by
 refine enter Tryz.func51 rfl Tryz.ntmps51 (Nat.le_of_ble_eq_true rfl) ?_; intro aa hS
 obtain ⟨bo, ba, bl, r, c, L, us, hT, hS4, hl6, hR⟩ := (hR.pk (r := sourceA _ b _ _ _) pkQ).sourceE
 dsimp only at hR
 have hSF := hT.sf
 have hul := hT.len
 have hwl := (hR.pk (r := linksA _ _ _ bl _ _ _) pkQ).linksWL
 have hll := hSF.lim a
 refine wp_seq_k ?_; intro K487 hK487
 refine wp_region_lit ?_
 revert aa
 refine qN hR ?_
 intro aa hS
 refine wpList_nil ?_
 refine hK487 _ _ ?_
 refine wp_seq_k ?_; intro K488 hK488
 refine wp_seq_k ?_; intro K489 hK489
 refine wp_region_lit ?_
 revert aa
 refine qM hR ?_
 intro aa hS
 refine sB (Bcall hS rfl Tryz.call77 (sonone_ok (hR.pk (r := blk b _ _) pkQ)) (by decide) ?_); clear hS; intro aa ww vv hS hp
 clear hR
 obtain ⟨rfl, hR⟩ := hp
 refine wpList_nil ?_
 refine hK489 _ _ ?_
 refine condF hS rfl ?_
 refine wp_skip ?_
 refine hK488 _ _ ?_
 refine wp_seq_k ?_; intro K490 hK490
 refine drawn krQ hR Ex.refl ?_; clear hR; intro ww hR hR0
 revert aa
 refine eA 0 rfl krQ (fun _ _ _ h => h) hR0 rfl (fun _ hS => Yld.move hS rfl) ?_
 refine eA 1 rfl krQ (fun _ _ _ h => h) hR0 rfl (fun _ hS => Yld.nilCheck hS rfl) ?_
 refine eA 2 rfl krQ (fun _ _ _ h => h) hR0 rfl (fun _ hS => Yld.fieldAddr hS rfl 0 Tryz.underlying129 rfl rfl info3 (by decide)) ?_
 refine eA 3 rfl krQ (fun _ _ _ h => h) hR0 rfl (fun _ hS => Yld.load1 hS rfl Tryz.underlying3 rfl rdQ) ?_
 refine eA 4 rfl krQ (fun _ _ _ h => h) hR0 rfl (fun _ hS => Yld.move hS rfl) ?_
 refine eA 5 rfl krQ (fun _ _ _ h => h) hR0 rfl (fun _ hS => Yld.move hS rfl) ?_
 intro aa hS
 refine dOne (i := 6) krQ ?_
 refine dop rfl (Bcall hS rfl Tryz.call63 (soCountO_ok hT ha (((hR.pk (r := linksA _ _ _ bl _ _ _) pkQ).pk (r := trieA _ _ _ bo _ _) pkQ).pk (r := blk b _ _) pkQ)) (by decide) ?_); clear hS; intro aa ww vv hS hp
 clear hR hR0
 obtain ⟨rfl, hR⟩ := hp
 refine dnext (hR.sub exQ) ?_; intro hR0
 refine dA 7 rfl krQ krQ krQ (fun _ _ _ h => h) hS hR0 suQ (by decide) ?_; clear hS; intro aa hS
 revert aa
 refine eA 8 rfl krQ (fun _ _ _ h => h) hR0 rfl (fun _ hS => Yld.assign hS rfl) ?_
 intro aa hS
 refine wpAnyH_done krQ ?_ _; clear hR0
 refine hK490 _ _ ?_
 refine wp_ret ?_
 repeat first | with_reducible refine thenR ?_ | with_reducible refine blockR ?_ | with_reducible refine scopeR ?_
 refine ret1 (fn := Tryz.f51) (e := .ret) (.inl rfl) Tryz.results51 hS hR ⟨_, (.tmp rfl), ?_⟩
 exact ⟨rfl, Sep.sourceI (t := ss) (b := b) (T := T) hT hS4 hl6 (hR.sub exQ)⟩
theorem soSlots_ok {T : So} {S lim b : Nat} {l : List HP} {w : World} {a : Int} (ha : 0 ≤ a ∧ a ≤ 4294967295) (hR : Sep (sourceA ss b S lim T :: l) w) : CallR Tryz.prog 65 [.pointer (some ⟨b, 0, none⟩), .int .u32 a] w (fun v w' => ∃ r c, v = .slice r (cst (slO T.O a)).length c ∧ Sep (sls r (cst (slO T.O a)).length c 3 1 ((cst (slO T.O a)).flatMap e1) :: sourceA ss b S lim T :: l) w') := by
 refine enter Tryz.func65 rfl Tryz.ntmps65 (Nat.le_of_ble_eq_true rfl) ?_; intro aa hS
 obtain ⟨bo, ba, bl, r, c, L, us, hT, hS4, hl6, hR⟩ := (hR.pk (r := sourceA _ b _ _ _) pkQ).sourceE
 dsimp only at hR
 have hSF := hT.sf
 have hul := hT.len
 have hwl := (hR.pk (r := linksA _ _ _ bl _ _ _) pkQ).linksWL
 refine wp_seq_k ?_; intro K491 hK491
 refine wp_region_lit ?_
 revert aa
 refine qN hR ?_
 intro aa hS
 refine wpList_nil ?_
 refine hK491 _ _ ?_
 refine wp_seq_k ?_; intro K492 hK492
 refine wp_region_lit ?_
 revert aa
 refine qM hR ?_
 refine qM hR ?_
 intro aa hS
 refine sB (Bcall hS rfl Tryz.call58 (soRecordO_ok hT ha (((hR.pk (r := linksA _ _ _ bl _ _ _) pkQ).pk (r := trieA _ _ _ bo _ _) pkQ).pk (r := blk b _ _) pkQ)) (by decide) ?_); clear hS; intro aa ww vv hS hp
 clear hR
 obtain ⟨rfl, hR⟩ := hp
 obtain ⟨o, ho⟩ : ∃ y, rcR T.R a = y := ⟨_, rfl⟩
 rw [ho] at hS
 revert aa
 refine qM hR ?_
 refine qX hR ?_
 refine qX hR ?_
 intro aa hS
 refine hS.splitB (t := 12) rfl ?_ ?_ <;> clear hS
 ·
  intro hg hS
  obtain ⟨q, rfl⟩ := Option.isSome_iff_exists.1 hg
  revert aa
  refine qN hR ?_
  refine qN hR ?_
  intro aa hS
  refine wpList_nil ?_
  refine hK492 _ _ ?_
  refine wp_seq_k ?_; intro K493 hK493
  refine wp_seq_k ?_; intro K494 hK494
  refine wp_region_lit ?_
  revert aa
  refine qM hR ?_
  refine qA hR rfl (fun _ hS => Yld.not hS rfl) ?_
  intro aa hS
  refine wpList_nil ?_
  refine hK494 _ _ ?_
  refine condF hS rfl ?_
  refine wp_skip ?_
  refine hK493 _ _ ?_
  refine wp_seq_k ?_; intro K495 hK495
  refine wp_region_lit ?_
  revert aa
  refine qM hR ?_
  refine qA hR rfl (fun _ hS => Yld.nilCheck hS rfl) ?_
  refine qA hR rfl (fun _ hS => Yld.fieldAddr hS rfl 4 Tryz.underlying129 rfl rfl info123 (by decide)) ?_
  refine qA hR rfl (fun _ hS => Yld.load1 hS rfl Tryz.underlying123 rfl rdQ) ?_
  refine qM hR ?_
  intro aa hS
  refine sB (Bcall hS rfl Tryz.call105 (LAll_ok (q := (q : Int)) (hR.pk (r := linksA _ _ _ bl _ _ _) pkQ)) (by decide) ?_); clear hS; intro aa ww vv hS hp
  clear hR
  obtain ⟨rz, cz, rfl, hR⟩ := hp
  rw [hT.all ho] at hS hR
  revert aa
  refine qN hR ?_
  intro aa hS
  refine wpList_nil ?_
  refine hK495 _ _ ?_
  refine wp_ret ?_
  repeat first | with_reducible refine thenR ?_ | with_reducible refine blockR ?_ | with_reducible refine scopeR ?_
  refine ret1 (fn := Tryz.f65) (e := .ret) (.inl rfl) Tryz.results65 hS hR ⟨_, (.tmp rfl), ?_⟩
  replace hR := Sep.sourceI (t := ss) (b := b) (T := T) hT hS4 hl6 (hR.sub exQ : Sep (_ :: _ :: _ :: _ :: _ :: sls rz _ cz 3 1 _ :: l) _)
  exact ⟨rz, cz, rfl, (hR.sub exQ)⟩
 ·
  intro hg hS
  obtain rfl : o = none := by cases o with
   | none => rfl
   | some q => simp at hg
  revert aa
  refine qN hR ?_
  refine qN hR ?_
  intro aa hS
  refine wpList_nil ?_
  refine hK492 _ _ ?_
  refine wp_seq_k ?_; intro K496 hK496
  refine wp_seq_k ?_; intro K497 hK497
  refine wp_region_lit ?_
  revert aa
  refine qM hR ?_
  refine qA hR rfl (fun _ hS => Yld.not hS rfl) ?_
  intro aa hS
  refine wpList_nil ?_
  refine hK497 _ _ ?_
  refine condT hS rfl ?_
  refine wp_seq_k ?_; intro K498 hK498
  refine wp_region_lit ?_
  revert aa
  refine qN hR ?_
  intro aa hS
  refine wpList_nil ?_
  refine hK498 _ _ ?_
  refine wp_ret ?_
  repeat first | with_reducible refine thenR ?_ | with_reducible refine blockR ?_ | with_reducible refine scopeR ?_
  refine ret1 (fn := Tryz.f65) (e := .ret) (.inl rfl) Tryz.results65 hS hR ⟨_, (.tmp rfl), ?_⟩
  rw [hSF.slNil ho]
  replace hR := Sep.sourceI (t := ss) (b := b) (T := T) hT hS4 hl6 (hR.sub exQ)
  have h9 : Sep (sls none (cst []).length 0 3 1 ((cst []).flatMap e1) :: sourceA ss b S lim T :: l) _ := hR.slsNil (T := 3) (sz := 1)
  exact ⟨none, 0, rfl, h9⟩
theorem soOf_ok {T : So} {S lim b : Nat} {l : List HP} {w : World} {x : Int} (hR : Sep (sourceA ss b S lim T :: l) w) : CallR Tryz.prog 40 [.pointer (some ⟨b, 0, none⟩), .int .i64 x] w (fun v w' => v = .tuple [.int .u32 ((ofO T.O x).getD 0), .bool (ofO T.O x).isSome].toArray ∧ Sep (sourceA ss b S lim T :: l) w') := by
 refine enter Tryz.func40 rfl Tryz.ntmps40 (Nat.le_of_ble_eq_true rfl) ?_; intro aa hS
 obtain ⟨bo, ba, bl, r, c, L, us, hT, hS4, hl6, hR⟩ := (hR.pk (r := sourceA _ b _ _ _) pkQ).sourceE
 dsimp only at hR
 have hSF := hT.sf
 have hul := hT.len
 have hwl := (hR.pk (r := linksA _ _ _ bl _ _ _) pkQ).linksWL
 have hop := hT.opt hwl (x := x)
 refine wp_seq_k ?_; intro K499 hK499
 refine wp_region_lit ?_
 revert aa
 refine qN hR ?_
 refine qN hR ?_
 intro aa hS
 refine wpList_nil ?_
 refine hK499 _ _ ?_
 refine wp_seq_k ?_; intro K500 hK500
 refine wp_seq_k ?_; intro K501 hK501
 refine wp_region_lit ?_
 revert aa
 refine qM hR ?_
 intro aa hS
 refine sB (Bcall hS rfl Tryz.call77 (sonone_ok (hR.pk (r := blk b _ _) pkQ)) (by decide) ?_); clear hS; intro aa ww vv hS hp
 clear hR
 obtain ⟨rfl, hR⟩ := hp
 refine wpList_nil ?_
 refine hK501 _ _ ?_
 refine condF hS rfl ?_
 refine wp_skip ?_
 refine hK500 _ _ ?_
 refine wp_seq_k ?_; intro K502 hK502
 refine wp_seq_k ?_; intro K503 hK503
 refine wp_region_lit ?_
 revert aa
 refine qM hR ?_
 refine qA hR rfl (fun _ hS => Yld.nilCheck hS rfl) ?_
 refine qA hR rfl (fun _ hS => Yld.fieldAddr hS rfl 4 Tryz.underlying129 rfl rfl info123 (by decide)) ?_
 refine qA hR rfl (fun _ hS => Yld.load1 hS rfl Tryz.underlying123 rfl rdQ) ?_
 refine qM hR ?_
 intro aa hS
 refine sB (Bcall hS rfl Tryz.call76 (LOf_ok (x := x) (hR.pk (r := linksA _ _ _ bl _ _ _) pkQ)) (by decide) ?_); clear hS; intro aa ww vv hS hp
 clear hR
 obtain ⟨rfl, hR⟩ := hp
 rw [show optV (ofS S S L x) = .tuple [.int .i64 (((ofS S S L x).getD 0 : Nat) : Int), .bool (ofO T.O x).isSome].toArray from by rw [← hop]] at hS
 revert aa
 refine qM hR ?_
 refine qX hR ?_
 refine qX hR ?_
 intro aa hS
 refine hS.splitB (t := 18) rfl ?_ ?_ <;> clear hS
 ·
  intro hg hS
  obtain ⟨a, hoa⟩ := Option.isSome_iff_exists.1 hg
  obtain ⟨s, q, rfl, hsS, hsm, hsr, hqS, hrc, hof, hol, hsl, hua⟩ := hT.ofSome hwl hoa
  obtain ⟨hux, hue⟩ := List.getElem?_eq_some_iff.1 hua
  revert aa
  refine qN hR ?_
  refine qN hR ?_
  intro aa hS
  refine wpList_nil ?_
  refine hK503 _ _ ?_
  refine wp_seq_k ?_; intro K504 hK504
  refine wp_region_lit ?_
  revert aa
  refine qM hR ?_
  refine qA hR rfl (fun _ hS => Yld.not hS rfl) ?_
  intro aa hS
  refine wpList_nil ?_
  refine hK504 _ _ ?_
  refine condF hS rfl ?_
  refine wp_skip ?_
  refine hK502 _ _ ?_
  refine wp_seq_k ?_; intro K505 hK505
  refine wp_region_lit ?_
  revert aa
  refine qM hR ?_
  refine qA hR rfl (fun _ hS => Yld.nilCheck hS rfl) ?_
  refine qA hR rfl (fun _ hS => Yld.fieldAddr hS rfl 1 Tryz.underlying129 rfl rfl info126 (by decide)) ?_
  refine qA hR rfl (fun _ hS => Yld.load1 hS rfl Tryz.underlying126 rfl rdQ) ?_
  refine qM hR ?_
  refine qA hR rfl (fun _ hS => ilQ 1 (s) Tryz.underlying126 info25) ?_
  refine qA hR rfl (fun _ hS => Yld.load1 hS rfl Tryz.underlying25 rfl (Rd.rec0 (k := s) (xs := us) (v := .int .u32 a) pkQ (by intro _; rfl) hux (by rw [hue]; rfl))) ?_
  refine qN hR ?_
  refine qN hR ?_
  intro aa hS
  refine wpList_nil ?_
  refine hK505 _ _ ?_
  refine wp_ret ?_
  repeat first | with_reducible refine thenR ?_ | with_reducible refine blockR ?_ | with_reducible refine scopeR ?_
  refine retN (fn := Tryz.f40) (e := .ret) (.inl rfl) Tryz.results40 hS hR ⟨_, .cons (.tmp rfl) (.cons (.tmp rfl) (.nil)), rfl, ?_⟩
  rw [hoa]
  exact ⟨rfl, Sep.sourceI (t := ss) (b := b) (T := T) hT hS4 hl6 (hR.sub exQ)⟩
 ·
  intro hg hS
  have hno : ofO T.O x = none := by
   cases hv : ofO T.O x with
   | none => rfl
   | some q => rw [hv] at hg; simp at hg
  revert aa
  refine qN hR ?_
  refine qN hR ?_
  intro aa hS
  refine wpList_nil ?_
  refine hK503 _ _ ?_
  refine wp_seq_k ?_; intro K506 hK506
  refine wp_region_lit ?_
  revert aa
  refine qM hR ?_
  refine qA hR rfl (fun _ hS => Yld.not hS rfl) ?_
  intro aa hS
  refine wpList_nil ?_
  refine hK506 _ _ ?_
  refine condT hS rfl ?_
  refine wp_seq_k ?_; intro K507 hK507
  refine wp_region_lit ?_
  revert aa
  refine qN hR ?_
  refine qN hR ?_
  intro aa hS
  refine wpList_nil ?_
  refine hK507 _ _ ?_
  refine wp_ret ?_
  repeat first | with_reducible refine thenR ?_ | with_reducible refine blockR ?_ | with_reducible refine scopeR ?_
  refine retN (fn := Tryz.f40) (e := .ret) (.inl rfl) Tryz.results40 hS hR ⟨_, .cons (.tmp rfl) (.cons (.tmp rfl) (.nil)), rfl, ?_⟩
  rw [hno]
  exact ⟨rfl, Sep.sourceI (t := ss) (b := b) (T := T) hT hS4 hl6 (hR.sub exQ)⟩
end Go.Proofs.YtkhdejjompbklaaGreat.Sx
