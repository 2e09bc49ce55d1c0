/-
 
-/
import Derived.Test.YtkhdejjompbklaaKLrC
import Derived.Test.YtkhdejjompbklaaKPs
namespace Go.Proofs.Ytkhdejjompbklaa.Sx
open Go
set_option maxRecDepth 20000
set_option linter.unusedVariables false
set_option linter.unusedSimpArgs false
theorem info102 : Try.prog.info? 102 = some Try.t102 := by kernel_rfl
theorem info103 : Try.prog.info? 103 = some Try.t103 := by kernel_rfl
theorem bld126_1 (x1 : Int) (w : World) : (Instr.build 126 [(1, .int .u32 x1)].toArray).run Try.prog w = .ok (.agg [.int .u8 0, .int .u32 x1, .int .u32 0, .int .u16 0, .int .u16 0].toArray) w := by kernel_rfl
abbrev ss : ST := { T := 106, A := 155, N := 152, I := 3, R := 110, S := 136, L := 142, M := 160, U := 25 }
theorem sonone_ok {S lim b bo ba bl c : Nat} {r : Option Addr} {l : List HP} {w : World} (hR : Sep (blk b [.int .i64 (lim : Int), .slice r S c, .pointer (some ⟨bo, 0, none⟩), .pointer (some ⟨ba, 0, none⟩), .pointer (some ⟨bl, 0, none⟩)] 106 :: l) w) : CallR Try.prog 60 [.pointer (some ⟨b, 0, none⟩)] w (fun v w' => v = .bool false ∧ Sep (blk b [.int .i64 (lim : Int), .slice r S c, .pointer (some ⟨bo, 0, none⟩), .pointer (some ⟨ba, 0, none⟩), .pointer (some ⟨bl, 0, none⟩)] 106 :: l) w') := by
 refine enter Try.func60 rfl Try.ntmps60 (Nat.le_of_ble_eq_true rfl) ?_; intro aa hS
 refine wp_seq_k ?_; intro K416 hK416
 refine wp_region_lit ?_
 revert aa
 refine qN hR ?_
 intro aa hS
 refine wpList_nil ?_
 refine hK416 _ _ ?_
 refine wp_seq_k ?_; intro K417 hK417
 refine wp_region_lit ?_
 revert aa
 refine qM hR ?_
 refine qA hR rfl (fun _ hS => Yld.eqlNil hS rfl rfl Try.underlying71) ?_
 refine qB (t := 4) false rfl (by rfl) ?_
 refine qM hR ?_
 refine qMg hR ?_
 refine qAg hR rfl rfl rfl (fun _ hS => Yld.nilCheck hS rfl) ?_
 refine qAg hR rfl rfl rfl (fun _ hS => Yld.fieldAddr hS rfl 4 Try.underlying106 rfl rfl info104 (by decide)) ?_
 refine qAg hR rfl rfl rfl (fun _ hS => Yld.load1 hS rfl Try.underlying104 rfl rdQ) ?_
 refine qAg hR rfl rfl rfl (fun _ hS => Yld.eqlNil hS rfl rfl Try.underlying104) ?_
 refine qB (t := 10) false rfl (by rfl) ?_
 refine qA hR rfl (fun _ hS => Yld.pickF hS rfl rfl) ?_
 refine qN hR ?_
 intro aa hS
 refine wpList_nil ?_
 refine hK417 _ _ ?_
 refine wp_ret ?_
 repeat first | with_reducible refine thenR ?_ | with_reducible refine blockR ?_ | with_reducible refine scopeR ?_
 refine ret1 (fn := Try.f60) (e := .ret) (.inl rfl) Try.results60 hS hR ⟨_, (.tmp rfl), ?_⟩
 exact ⟨rfl, (hR.sub exQ)⟩
theorem soright_ok {S lim b bo ba bl c : Nat} {r : Option Addr} {l : List HP} {w : World} {i : Int} (hR : Sep (blk b [.int .i64 (lim : Int), .slice r S c, .pointer (some ⟨bo, 0, none⟩), .pointer (some ⟨ba, 0, none⟩), .pointer (some ⟨bl, 0, none⟩)] 106 :: l) w) : CallR Try.prog 84 [.pointer (some ⟨b, 0, none⟩), .int .i64 i] w (fun v w' => v = .bool (decide (0 ≤ i ∧ i < S)) ∧ Sep (blk b [.int .i64 (lim : Int), .slice r S c, .pointer (some ⟨bo, 0, none⟩), .pointer (some ⟨ba, 0, none⟩), .pointer (some ⟨bl, 0, none⟩)] 106 :: l) w') := by
 refine enter Try.func84 rfl Try.ntmps84 (Nat.le_of_ble_eq_true rfl) ?_; intro aa hS
 refine wp_seq_k ?_; intro K418 hK418
 refine wp_region_lit ?_
 revert aa
 refine qN hR ?_
 intro aa hS
 refine wpList_nil ?_
 refine hK418 _ _ ?_
 refine wp_seq_k ?_; intro K419 hK419
 refine wp_region_lit ?_
 revert aa
 refine qM hR ?_
 refine qA hR rfl (fun _ hS => Yld.geq hS rfl rfl) ?_
 refine qM hR ?_
 intro aa hS
 refine hS.splitB (t := 7) rfl ?_ ?_ <;> clear hS
 ·
  intro hg hS
  revert aa
  refine qMg hR ?_
  refine qMg hR ?_
  refine qAg hR rfl rfl rfl (fun _ hS => Yld.nilCheck hS rfl) ?_
  refine qAg hR rfl rfl rfl (fun _ hS => Yld.fieldAddr hS rfl 1 Try.underlying106 rfl rfl info102 (by decide)) ?_
  refine qAg hR rfl rfl rfl (fun _ hS => Yld.load1 hS rfl Try.underlying102 rfl rdQ) ?_
  refine qAg hR rfl rfl rfl (fun _ hS => Yld.len hS rfl Try.underlying102) ?_
  refine qAg hR rfl rfl rfl (fun _ hS => Yld.lss hS rfl rfl) ?_
  refine qA hR rfl (fun _ hS => Yld.pickT hS rfl rfl) ?_
  refine qN hR ?_
  intro aa hS
  refine wpList_nil ?_
  refine hK419 _ _ ?_
  refine wp_ret ?_
  repeat first | with_reducible refine thenR ?_ | with_reducible refine blockR ?_ | with_reducible refine scopeR ?_
  refine ret1 (fn := Try.f84) (e := .ret) (.inl rfl) Try.results84 hS hR ⟨_, (.tmp rfl), ?_⟩
  refine ⟨?_, (hR.sub exQ)⟩
  exact dec_iff (by omega)
 ·
  intro hg hS
  revert aa
  refine qZ ?_
  refine qZ ?_
  refine qZ ?_
  refine qZ ?_
  refine qZ ?_
  refine qZ ?_
  refine qZ ?_
  refine qA hR rfl (fun _ hS => Yld.pickF hS rfl rfl) ?_
  refine qN hR ?_
  intro aa hS
  refine wpList_nil ?_
  refine hK419 _ _ ?_
  refine wp_ret ?_
  repeat first | with_reducible refine thenR ?_ | with_reducible refine blockR ?_ | with_reducible refine scopeR ?_
  refine ret1 (fn := Try.f84) (e := .ret) (.inl rfl) Try.results84 hS hR ⟨_, (.tmp rfl), ?_⟩
  refine ⟨?_, (hR.sub exQ)⟩
  exact dec_no (by omega)
theorem sokey_ok {a : Int} {l : List HP} {w : World} (hR : Sep l w) : CallR Try.prog 69 [.int .u32 a] w (fun v w' => v = vK (kA a) ∧ Sep l w') := by
 refine enter Try.func69 rfl Try.ntmps69 (Nat.le_of_ble_eq_true rfl) ?_; intro aa hS
 refine wp_seq_k ?_; intro K420 hK420
 refine wp_region_lit ?_
 refine sB (Balloc hS hR info126 (by rfl) (by rfl) (by decide) ?_); clear hS hR; intro aa ww bb2 hS hR
 refine wpList_nil ?_
 refine hK420 _ _ ?_
 refine wp_seq_k ?_; intro K421 hK421
 refine wp_region_lit ?_
 revert aa
 refine qM hR ?_
 refine qA hR rfl (fun _ hS => Yld.build hS rfl (bld126_1 _)) ?_
 intro aa hS
 refine sB (Bstore hS hR rfl rfl (by rfl) info126 (by rfl) pkQ (by rfl) (Nat.le_of_ble_eq_true rfl) ?_); clear hR; intro ww hR
 refine wpList_nil ?_
 refine hK421 _ _ ?_
 refine wp_ret ?_
 repeat first | with_reducible refine thenR ?_ | with_reducible refine blockR ?_ | with_reducible refine scopeR ?_
 refine ret1 (fn := Try.f69) (e := .ret) (.inl rfl) Try.results69 hS hR ⟨_, (.agg rfl Try.underlying126 rfl info126 (Rds.cons (Rd.blk pkQ (by rfl)) (Rds.cons (Rd.blk pkQ (by rfl)) (Rds.cons (Rd.blk pkQ (by rfl)) (Rds.cons (Rd.blk pkQ (by rfl)) (Rds.cons (Rd.blk pkQ (by rfl)) (Rds.nil)))))) (by rfl)), ?_⟩
 try dsimp only [lay, List.set] at hR
 exact ⟨rfl, (hR.sub exQ)⟩
theorem soRecordO_ok {T : So} {us : List Int} {L : Nat → List Nat} {S lim b bo ba bl c : Nat} {r : Option Addr} {a : Int} {l : List HP} {w : World} (hT : SI S lim T L us) (ha : 0 ≤ a ∧ a ≤ 4294967295) (hR : Sep (blk b [.int .i64 (lim : Int), .slice r S c, .pointer (some ⟨bo, 0, none⟩), .pointer (some ⟨ba, 0, none⟩), .pointer (some ⟨bl, 0, none⟩)] 106 :: trieA 155 152 3 bo (ixK T.R) (S : Int) :: linksA 142 160 3 bl S S L :: l) w) : CallR Try.prog 42 [.pointer (some ⟨b, 0, none⟩), .int .u32 a] w (fun v w' => v = optV (rcR T.R a) ∧ Sep (blk b [.int .i64 (lim : Int), .slice r S c, .pointer (some ⟨bo, 0, none⟩), .pointer (some ⟨ba, 0, none⟩), .pointer (some ⟨bl, 0, none⟩)] 106 :: trieA 155 152 3 bo (ixK T.R) (S : Int) :: linksA 142 160 3 bl S S L :: l) w') := by
 refine enter Try.func42 rfl Try.ntmps42 (Nat.le_of_ble_eq_true rfl) ?_; intro aa hS
 refine wp_seq_k ?_; intro K422 hK422
 refine wp_region_lit ?_
 revert aa
 refine qN hR ?_
 refine qN hR ?_
 intro aa hS
 refine wpList_nil ?_
 refine hK422 _ _ ?_
 refine wp_seq_k ?_; intro K423 hK423
 refine wp_seq_k ?_; intro K424 hK424
 refine wp_region_lit ?_
 revert aa
 refine qM hR ?_
 intro aa hS
 refine sB (Bcall hS rfl Try.call60 (sonone_ok (hR.pk (r := blk b _ _) pkQ)) (by decide) ?_); clear hS; intro aa ww vv hS hp
 clear hR
 obtain ⟨rfl, hR⟩ := hp
 refine wpList_nil ?_
 refine hK424 _ _ ?_
 refine condF hS rfl ?_
 refine wp_skip ?_
 refine hK423 _ _ ?_
 refine wp_seq_k ?_; intro K425 hK425
 refine drawn krQ hR Ex.refl ?_; clear hR; intro ww hR hR0
 revert aa
 refine eA 0 rfl krQ (fun _ _ _ h => h) hR0 rfl (fun _ hS => Yld.move hS rfl) ?_
 refine eA 1 rfl krQ (fun _ _ _ h => h) hR0 rfl (fun _ hS => Yld.nilCheck hS rfl) ?_
 refine eA 2 rfl krQ (fun _ _ _ h => h) hR0 rfl (fun _ hS => Yld.fieldAddr hS rfl 2 Try.underlying106 rfl rfl info103 (by decide)) ?_
 refine eA 3 rfl krQ (fun _ _ _ h => h) hR0 rfl (fun _ hS => Yld.load1 hS rfl Try.underlying103 rfl rdQ) ?_
 refine eA 4 rfl krQ (fun _ _ _ h => h) hR0 rfl (fun _ hS => Yld.move hS rfl) ?_
 intro aa hS
 refine dOne (i := 5) krQ ?_
 refine dop rfl (Bcall hS rfl Try.call69 (sokey_ok hR) (by decide) ?_); clear hS; intro aa ww vv hS hp
 clear hR hR0
 obtain ⟨rfl, hR⟩ := hp
 refine dnext (hR.sub exQ) ?_; intro hR0
 refine dOne (i := 6) krQ ?_
 refine dop rfl (Bcall hS rfl Try.call68 (Get_ok (k := kA a) (hR.pk (r := trieA _ _ _ bo _ _) pkQ) (kA_wf ha)) (by decide) ?_); clear hS; intro aa ww vv hS hp
 clear hR hR0
 obtain ⟨rfl, hR⟩ := hp
 refine dnext (hR.sub exQ) ?_; intro hR0
 revert aa
 refine eA 7 rfl krQ (fun _ _ _ h => h) hR0 rfl (fun _ hS => Yld.extract hS rfl rfl) ?_
 refine eA 8 rfl krQ (fun _ _ _ h => h) hR0 rfl (fun _ hS => Yld.extract hS rfl rfl) ?_
 refine eA 9 rfl krQ (fun _ _ _ h => h) hR0 rfl (fun _ hS => Yld.assign hS rfl) ?_
 refine eA 10 rfl krQ (fun _ _ _ h => h) hR0 rfl (fun _ hS => Yld.assign hS rfl) ?_
 intro aa hS
 refine wpAnyH_done krQ ?_ _; clear hR0
 refine hK425 _ _ ?_
 refine wp_ret ?_
 repeat first | with_reducible refine thenR ?_ | with_reducible refine blockR ?_ | with_reducible refine scopeR ?_
 refine retN (fn := Try.f42) (e := .ret) (.inl rfl) Try.results42 hS hR ⟨_, .cons (.tmp rfl) (.cons (.tmp rfl) (.nil)), rfl, ?_⟩
 exact ⟨ix_optV, (hR.sub exQ)⟩
theorem soCountO_ok {T : So} {us : List Int} {L : Nat → List Nat} {S lim b bo ba bl c : Nat} {r : Option Addr} {a : Int} {l : List HP} {w : World} (hT : SI S lim T L us) (ha : 0 ≤ a ∧ a ≤ 4294967295) (hR : Sep (blk b [.int .i64 (lim : Int), .slice r S c, .pointer (some ⟨bo, 0, none⟩), .pointer (some ⟨ba, 0, none⟩), .pointer (some ⟨bl, 0, none⟩)] 106 :: trieA 155 152 3 bo (ixK T.R) (S : Int) :: linksA 142 160 3 bl S S L :: l) w) : CallR Try.prog 31 [.pointer (some ⟨b, 0, none⟩), .int .u32 a] w (fun v w' => v = .int .i64 ((slO T.O a).length : Int) ∧ Sep (blk b [.int .i64 (lim : Int), .slice r S c, .pointer (some ⟨bo, 0, none⟩), .pointer (some ⟨ba, 0, none⟩), .pointer (some ⟨bl, 0, none⟩)] 106 :: trieA 155 152 3 bo (ixK T.R) (S : Int) :: linksA 142 160 3 bl S S L :: l) w') := by
 refine enter Try.func31 rfl Try.ntmps31 (Nat.le_of_ble_eq_true rfl) ?_; intro aa hS
 refine wp_seq_k ?_; intro K426 hK426
 refine wp_region_lit ?_
 revert aa
 refine qN hR ?_
 intro aa hS
 refine wpList_nil ?_
 refine hK426 _ _ ?_
 refine wp_seq_k ?_; intro K427 hK427
 refine wp_region_lit ?_
 revert aa
 refine qM hR ?_
 refine qM hR ?_
 intro aa hS
 refine sB (Bcall hS rfl Try.call42 (soRecordO_ok hT ha (((hR.pk (r := linksA _ _ _ bl _ _ _) pkQ).pk (r := trieA _ _ _ bo _ _) pkQ).pk (r := blk b _ _) pkQ)) (by decide) ?_); clear hS; intro aa ww vv hS hp
 clear hR
 obtain ⟨rfl, hR⟩ := hp
 obtain ⟨o, ho⟩ : ∃ y, rcR T.R a = y := ⟨_, rfl⟩
 rw [ho] at hS
 revert aa
 refine qM hR ?_
 refine qX hR ?_
 refine qX hR ?_
 intro aa hS
 refine hS.splitB (t := 12) rfl ?_ ?_ <;> clear hS
 ·
  intro hg hS
  obtain ⟨q, rfl⟩ := Option.isSome_iff_exists.1 hg
  revert aa
  refine qN hR ?_
  refine qN hR ?_
  intro aa hS
  refine wpList_nil ?_
  refine hK427 _ _ ?_
  refine wp_seq_k ?_; intro K428 hK428
  refine wp_seq_k ?_; intro K429 hK429
  refine wp_region_lit ?_
  revert aa
  refine qM hR ?_
  refine qA hR rfl (fun _ hS => Yld.not hS rfl) ?_
  intro aa hS
  refine wpList_nil ?_
  refine hK429 _ _ ?_
  refine condF hS rfl ?_
  refine wp_skip ?_
  refine hK428 _ _ ?_
  refine wp_seq_k ?_; intro K430 hK430
  refine wp_region_lit ?_
  revert aa
  refine qM hR ?_
  refine qA hR rfl (fun _ hS => Yld.nilCheck hS rfl) ?_
  refine qA hR rfl (fun _ hS => Yld.fieldAddr hS rfl 4 Try.underlying106 rfl rfl info104 (by decide)) ?_
  refine qA hR rfl (fun _ hS => Yld.load1 hS rfl Try.underlying104 rfl rdQ) ?_
  refine qM hR ?_
  intro aa hS
  refine sB (Bcall hS rfl Try.call58 (LLen_ok (x := (q : Int)) (hR.pk (r := linksA _ _ _ bl _ _ _) pkQ)) (by decide) ?_); clear hS; intro aa ww vv hS hp
  clear hR
  obtain ⟨rfl, hR⟩ := hp
  rw [hT.all ho] at hS
  revert aa
  refine qN hR ?_
  intro aa hS
  refine wpList_nil ?_
  refine hK430 _ _ ?_
  refine wp_ret ?_
  repeat first | with_reducible refine thenR ?_ | with_reducible refine blockR ?_ | with_reducible refine scopeR ?_
  refine ret1 (fn := Try.f31) (e := .ret) (.inl rfl) Try.results31 hS hR ⟨_, (.tmp rfl), ?_⟩
  exact ⟨rfl, (hR.sub exQ)⟩
 ·
  intro hg hS
  obtain rfl : o = none := by cases o with
   | none => rfl
   | some q => simp at hg
  revert aa
  refine qN hR ?_
  refine qN hR ?_
  intro aa hS
  refine wpList_nil ?_
  refine hK427 _ _ ?_
  refine wp_seq_k ?_; intro K431 hK431
  refine wp_seq_k ?_; intro K432 hK432
  refine wp_region_lit ?_
  revert aa
  refine qM hR ?_
  refine qA hR rfl (fun _ hS => Yld.not hS rfl) ?_
  intro aa hS
  refine wpList_nil ?_
  refine hK432 _ _ ?_
  refine condT hS rfl ?_
  refine wp_seq_k ?_; intro K433 hK433
  refine wp_region_lit ?_
  revert aa
  refine qN hR ?_
  intro aa hS
  refine wpList_nil ?_
  refine hK433 _ _ ?_
  refine wp_ret ?_
  repeat first | with_reducible refine thenR ?_ | with_reducible refine blockR ?_ | with_reducible refine scopeR ?_
  refine ret1 (fn := Try.f31) (e := .ret) (.inl rfl) Try.results31 hS hR ⟨_, (.tmp rfl), ?_⟩
  rw [hT.sf.slNil ho]
  exact ⟨rfl, (hR.sub exQ)⟩
theorem soRecord_ok {T : So} {S lim b : Nat} {l : List HP} {w : World} {a : Int} (ha : 0 ≤ a ∧ a ≤ 4294967295) (hR : Sep (sourceA ss b S lim T :: l) w) : CallR Try.prog 42 [.pointer (some ⟨b, 0, none⟩), .int .u32 a] w (fun v w' => v = optV (rcR T.R a) ∧ Sep (sourceA ss b S lim T :: l) w') := by
 obtain ⟨bo, ba, bl, r, c, L, us, hT, hS4, hl6, hR⟩ := hR.sourceE
 refine CallR.mono (soRecordO_ok hT ha (hR.sub exQ)) ?_; clear hR; intro vv ww hR; obtain ⟨hv, hR⟩ := hR; exact ⟨hv, Sep.sourceI (t := ss) (b := b) (T := T) hT hS4 hl6 (hR.sub exQ)⟩
theorem soCount_ok {T : So} {S lim b : Nat} {l : List HP} {w : World} {a : Int} (ha : 0 ≤ a ∧ a ≤ 4294967295) (hR : Sep (sourceA ss b S lim T :: l) w) : CallR Try.prog 31 [.pointer (some ⟨b, 0, none⟩), .int .u32 a] w (fun v w' => v = .int .i64 ((slO T.O a).length : Int) ∧ Sep (sourceA ss b S lim T :: l) w') := by
 obtain ⟨bo, ba, bl, r, c, L, us, hT, hS4, hl6, hR⟩ := hR.sourceE
 refine CallR.mono (soCountO_ok hT ha (hR.sub exQ)) ?_; clear hR; intro vv ww hR; obtain ⟨hv, hR⟩ := hR; exact ⟨hv, Sep.sourceI (t := ss) (b := b) (T := T) hT hS4 hl6 (hR.sub exQ)⟩
theorem soRoom_ok {T : So} {S lim b : Nat} {l : List HP} {w : World} {a : Int} (ha : 0 ≤ a ∧ a ≤ 4294967295) (hR : Sep (sourceA ss b S lim T :: l) w) : CallR Try.prog 35 [.pointer (some ⟨b, 0, none⟩), .int .u32 a] w (fun v w' => v = .int .i64 ((lim : Int) - ((slO T.O a).length : Int)) ∧ Sep (sourceA ss b S lim T :: l) w') := by
 refine enter Try.func35 rfl Try.ntmps35 (Nat.le_of_ble_eq_true rfl) ?_; intro aa hS
 obtain ⟨bo, ba, bl, r, c, L, us, hT, hS4, hl6, hR⟩ := (hR.pk (r := sourceA _ b _ _ _) pkQ).sourceE
 dsimp only at hR
 have hSF := hT.sf
 have hul := hT.len
 have hwl := (hR.pk (r := linksA _ _ _ bl _ _ _) pkQ).linksWL
 have hll := hSF.lim a
 refine wp_seq_k ?_; intro K434 hK434
 refine wp_region_lit ?_
 revert aa
 refine qN hR ?_
 intro aa hS
 refine wpList_nil ?_
 refine hK434 _ _ ?_
 refine wp_seq_k ?_; intro K435 hK435
 refine wp_seq_k ?_; intro K436 hK436
 refine wp_region_lit ?_
 revert aa
 refine qM hR ?_
 intro aa hS
 refine sB (Bcall hS rfl Try.call60 (sonone_ok (hR.pk (r := blk b _ _) pkQ)) (by decide) ?_); clear hS; intro aa ww vv hS hp
 clear hR
 obtain ⟨rfl, hR⟩ := hp
 refine wpList_nil ?_
 refine hK436 _ _ ?_
 refine condF hS rfl ?_
 refine wp_skip ?_
 refine hK435 _ _ ?_
 refine wp_seq_k ?_; intro K437 hK437
 refine drawn krQ hR Ex.refl ?_; clear hR; intro ww hR hR0
 revert aa
 refine eA 0 rfl krQ (fun _ _ _ h => h) hR0 rfl (fun _ hS => Yld.move hS rfl) ?_
 refine eA 1 rfl krQ (fun _ _ _ h => h) hR0 rfl (fun _ hS => Yld.nilCheck hS rfl) ?_
 refine eA 2 rfl krQ (fun _ _ _ h => h) hR0 rfl (fun _ hS => Yld.fieldAddr hS rfl 0 Try.underlying106 rfl rfl info3 (by decide)) ?_
 refine eA 3 rfl krQ (fun _ _ _ h => h) hR0 rfl (fun _ hS => Yld.load1 hS rfl Try.underlying3 rfl rdQ) ?_
 refine eA 4 rfl krQ (fun _ _ _ h => h) hR0 rfl (fun _ hS => Yld.move hS rfl) ?_
 refine eA 5 rfl krQ (fun _ _ _ h => h) hR0 rfl (fun _ hS => Yld.move hS rfl) ?_
 intro aa hS
 refine dOne (i := 6) krQ ?_
 refine dop rfl (Bcall hS rfl Try.call31 (soCountO_ok hT ha (((hR.pk (r := linksA _ _ _ bl _ _ _) pkQ).pk (r := trieA _ _ _ bo _ _) pkQ).pk (r := blk b _ _) pkQ)) (by decide) ?_); clear hS; intro aa ww vv hS hp
 clear hR hR0
 obtain ⟨rfl, hR⟩ := hp
 refine dnext (hR.sub exQ) ?_; intro hR0
 refine dA 7 rfl krQ krQ krQ (fun _ _ _ h => h) hS hR0 suQ (by decide) ?_; clear hS; intro aa hS
 revert aa
 refine eA 8 rfl krQ (fun _ _ _ h => h) hR0 rfl (fun _ hS => Yld.assign hS rfl) ?_
 intro aa hS
 refine wpAnyH_done krQ ?_ _; clear hR0
 refine hK437 _ _ ?_
 refine wp_ret ?_
 repeat first | with_reducible refine thenR ?_ | with_reducible refine blockR ?_ | with_reducible refine scopeR ?_
 refine ret1 (fn := Try.f35) (e := .ret) (.inl rfl) Try.results35 hS hR ⟨_, (.tmp rfl), ?_⟩
 exact ⟨rfl, Sep.sourceI (t := ss) (b := b) (T := T) hT hS4 hl6 (hR.sub exQ)⟩
theorem soSlots_ok {T : So} {S lim b : Nat} {l : List HP} {w : World} {a : Int} (ha : 0 ≤ a ∧ a ≤ 4294967295) (hR : Sep (sourceA ss b S lim T :: l) w) : CallR Try.prog 43 [.pointer (some ⟨b, 0, none⟩), .int .u32 a] w (fun v w' => ∃ r c, v = .slice r (cst (slO T.O a)).length c ∧ Sep (sls r (cst (slO T.O a)).length c 3 1 ((cst (slO T.O a)).flatMap e1) :: sourceA ss b S lim T :: l) w') := by
 refine enter Try.func43 rfl Try.ntmps43 (Nat.le_of_ble_eq_true rfl) ?_; intro aa hS
 obtain ⟨bo, ba, bl, r, c, L, us, hT, hS4, hl6, hR⟩ := (hR.pk (r := sourceA _ b _ _ _) pkQ).sourceE
 dsimp only at hR
 have hSF := hT.sf
 have hul := hT.len
 have hwl := (hR.pk (r := linksA _ _ _ bl _ _ _) pkQ).linksWL
 refine wp_seq_k ?_; intro K438 hK438
 refine wp_region_lit ?_
 revert aa
 refine qN hR ?_
 intro aa hS
 refine wpList_nil ?_
 refine hK438 _ _ ?_
 refine wp_seq_k ?_; intro K439 hK439
 refine wp_region_lit ?_
 revert aa
 refine qM hR ?_
 refine qM hR ?_
 intro aa hS
 refine sB (Bcall hS rfl Try.call42 (soRecordO_ok hT ha (((hR.pk (r := linksA _ _ _ bl _ _ _) pkQ).pk (r := trieA _ _ _ bo _ _) pkQ).pk (r := blk b _ _) pkQ)) (by decide) ?_); clear hS; intro aa ww vv hS hp
 clear hR
 obtain ⟨rfl, hR⟩ := hp
 obtain ⟨o, ho⟩ : ∃ y, rcR T.R a = y := ⟨_, rfl⟩
 rw [ho] at hS
 revert aa
 refine qM hR ?_
 refine qX hR ?_
 refine qX hR ?_
 intro aa hS
 refine hS.splitB (t := 12) rfl ?_ ?_ <;> clear hS
 ·
  intro hg hS
  obtain ⟨q, rfl⟩ := Option.isSome_iff_exists.1 hg
  revert aa
  refine qN hR ?_
  refine qN hR ?_
  intro aa hS
  refine wpList_nil ?_
  refine hK439 _ _ ?_
  refine wp_seq_k ?_; intro K440 hK440
  refine wp_seq_k ?_; intro K441 hK441
  refine wp_region_lit ?_
  revert aa
  refine qM hR ?_
  refine qA hR rfl (fun _ hS => Yld.not hS rfl) ?_
  intro aa hS
  refine wpList_nil ?_
  refine hK441 _ _ ?_
  refine condF hS rfl ?_
  refine wp_skip ?_
  refine hK440 _ _ ?_
  refine wp_seq_k ?_; intro K442 hK442
  refine wp_region_lit ?_
  revert aa
  refine qM hR ?_
  refine qA hR rfl (fun _ hS => Yld.nilCheck hS rfl) ?_
  refine qA hR rfl (fun _ hS => Yld.fieldAddr hS rfl 4 Try.underlying106 rfl rfl info104 (by decide)) ?_
  refine qA hR rfl (fun _ hS => Yld.load1 hS rfl Try.underlying104 rfl rdQ) ?_
  refine qM hR ?_
  intro aa hS
  refine sB (Bcall hS rfl Try.call70 (LAll_ok (q := (q : Int)) (hR.pk (r := linksA _ _ _ bl _ _ _) pkQ)) (by decide) ?_); clear hS; intro aa ww vv hS hp
  clear hR
  obtain ⟨rz, cz, rfl, hR⟩ := hp
  rw [hT.all ho] at hS hR
  revert aa
  refine qN hR ?_
  intro aa hS
  refine wpList_nil ?_
  refine hK442 _ _ ?_
  refine wp_ret ?_
  repeat first | with_reducible refine thenR ?_ | with_reducible refine blockR ?_ | with_reducible refine scopeR ?_
  refine ret1 (fn := Try.f43) (e := .ret) (.inl rfl) Try.results43 hS hR ⟨_, (.tmp rfl), ?_⟩
  replace hR := Sep.sourceI (t := ss) (b := b) (T := T) hT hS4 hl6 (hR.sub exQ : Sep (_ :: _ :: _ :: _ :: _ :: sls rz _ cz 3 1 _ :: l) _)
  exact ⟨rz, cz, rfl, (hR.sub exQ)⟩
 ·
  intro hg hS
  obtain rfl : o = none := by cases o with
   | none => rfl
   | some q => simp at hg
  revert aa
  refine qN hR ?_
  refine qN hR ?_
  intro aa hS
  refine wpList_nil ?_
  refine hK439 _ _ ?_
  refine wp_seq_k ?_; intro K443 hK443
  refine wp_seq_k ?_; intro K444 hK444
  refine wp_region_lit ?_
  revert aa
  refine qM hR ?_
  refine qA hR rfl (fun _ hS => Yld.not hS rfl) ?_
  intro aa hS
  refine wpList_nil ?_
  refine hK444 _ _ ?_
  refine condT hS rfl ?_
  refine wp_seq_k ?_; intro K445 hK445
  refine wp_region_lit ?_
  revert aa
  refine qN hR ?_
  intro aa hS
  refine wpList_nil ?_
  refine hK445 _ _ ?_
  refine wp_ret ?_
  repeat first | with_reducible refine thenR ?_ | with_reducible refine blockR ?_ | with_reducible refine scopeR ?_
  refine ret1 (fn := Try.f43) (e := .ret) (.inl rfl) Try.results43 hS hR ⟨_, (.tmp rfl), ?_⟩
  rw [hSF.slNil ho]
  replace hR := Sep.sourceI (t := ss) (b := b) (T := T) hT hS4 hl6 (hR.sub exQ)
  have h9 : Sep (sls none (cst []).length 0 3 1 ((cst []).flatMap e1) :: sourceA ss b S lim T :: l) _ := hR.slsNil (T := 3) (sz := 1)
  exact ⟨none, 0, rfl, h9⟩
theorem soOf_ok {T : So} {S lim b : Nat} {l : List HP} {w : World} {x : Int} (hR : Sep (sourceA ss b S lim T :: l) w) : CallR Try.prog 52 [.pointer (some ⟨b, 0, none⟩), .int .i64 x] w (fun v w' => v = .tuple [.int .u32 ((ofO T.O x).getD 0), .bool (ofO T.O x).isSome].toArray ∧ Sep (sourceA ss b S lim T :: l) w') := by
 refine enter Try.func52 rfl Try.ntmps52 (Nat.le_of_ble_eq_true rfl) ?_; intro aa hS
 obtain ⟨bo, ba, bl, r, c, L, us, hT, hS4, hl6, hR⟩ := (hR.pk (r := sourceA _ b _ _ _) pkQ).sourceE
 dsimp only at hR
 have hSF := hT.sf
 have hul := hT.len
 have hwl := (hR.pk (r := linksA _ _ _ bl _ _ _) pkQ).linksWL
 have hop := hT.opt hwl (x := x)
 refine wp_seq_k ?_; intro K446 hK446
 refine wp_region_lit ?_
 revert aa
 refine qN hR ?_
 refine qN hR ?_
 intro aa hS
 refine wpList_nil ?_
 refine hK446 _ _ ?_
 refine wp_seq_k ?_; intro K447 hK447
 refine wp_seq_k ?_; intro K448 hK448
 refine wp_region_lit ?_
 revert aa
 refine qM hR ?_
 intro aa hS
 refine sB (Bcall hS rfl Try.call60 (sonone_ok (hR.pk (r := blk b _ _) pkQ)) (by decide) ?_); clear hS; intro aa ww vv hS hp
 clear hR
 obtain ⟨rfl, hR⟩ := hp
 refine wpList_nil ?_
 refine hK448 _ _ ?_
 refine condF hS rfl ?_
 refine wp_skip ?_
 refine hK447 _ _ ?_
 refine wp_seq_k ?_; intro K449 hK449
 refine wp_seq_k ?_; intro K450 hK450
 refine wp_region_lit ?_
 revert aa
 refine qM hR ?_
 refine qA hR rfl (fun _ hS => Yld.nilCheck hS rfl) ?_
 refine qA hR rfl (fun _ hS => Yld.fieldAddr hS rfl 4 Try.underlying106 rfl rfl info104 (by decide)) ?_
 refine qA hR rfl (fun _ hS => Yld.load1 hS rfl Try.underlying104 rfl rdQ) ?_
 refine qM hR ?_
 intro aa hS
 refine sB (Bcall hS rfl Try.call78 (LOf_ok (x := x) (hR.pk (r := linksA _ _ _ bl _ _ _) pkQ)) (by decide) ?_); clear hS; intro aa ww vv hS hp
 clear hR
 obtain ⟨rfl, hR⟩ := hp
 rw [show optV (ofS S S L x) = .tuple [.int .i64 (((ofS S S L x).getD 0 : Nat) : Int), .bool (ofO T.O x).isSome].toArray from by rw [← hop]] at hS
 revert aa
 refine qM hR ?_
 refine qX hR ?_
 refine qX hR ?_
 intro aa hS
 refine hS.splitB (t := 18) rfl ?_ ?_ <;> clear hS
 ·
  intro hg hS
  obtain ⟨a, hoa⟩ := Option.isSome_iff_exists.1 hg
  obtain ⟨s, q, rfl, hsS, hsm, hsr, hqS, hrc, hof, hol, hsl, hua⟩ := hT.ofSome hwl hoa
  obtain ⟨hux, hue⟩ := List.getElem?_eq_some_iff.1 hua
  revert aa
  refine qN hR ?_
  refine qN hR ?_
  intro aa hS
  refine wpList_nil ?_
  refine hK450 _ _ ?_
  refine wp_seq_k ?_; intro K451 hK451
  refine wp_region_lit ?_
  revert aa
  refine qM hR ?_
  refine qA hR rfl (fun _ hS => Yld.not hS rfl) ?_
  intro aa hS
  refine wpList_nil ?_
  refine hK451 _ _ ?_
  refine condF hS rfl ?_
  refine wp_skip ?_
  refine hK449 _ _ ?_
  refine wp_seq_k ?_; intro K452 hK452
  refine wp_region_lit ?_
  revert aa
  refine qM hR ?_
  refine qA hR rfl (fun _ hS => Yld.nilCheck hS rfl) ?_
  refine qA hR rfl (fun _ hS => Yld.fieldAddr hS rfl 1 Try.underlying106 rfl rfl info102 (by decide)) ?_
  refine qA hR rfl (fun _ hS => Yld.load1 hS rfl Try.underlying102 rfl rdQ) ?_
  refine qM hR ?_
  refine qA hR rfl (fun _ hS => ilQ 1 (s) Try.underlying102 info25) ?_
  refine qA hR rfl (fun _ hS => Yld.load1 hS rfl Try.underlying25 rfl (Rd.rec0 (k := s) (xs := us) (v := .int .u32 a) pkQ (by intro _; rfl) hux (by rw [hue]; rfl))) ?_
  refine qN hR ?_
  refine qN hR ?_
  intro aa hS
  refine wpList_nil ?_
  refine hK452 _ _ ?_
  refine wp_ret ?_
  repeat first | with_reducible refine thenR ?_ | with_reducible refine blockR ?_ | with_reducible refine scopeR ?_
  refine retN (fn := Try.f52) (e := .ret) (.inl rfl) Try.results52 hS hR ⟨_, .cons (.tmp rfl) (.cons (.tmp rfl) (.nil)), rfl, ?_⟩
  rw [hoa]
  exact ⟨rfl, Sep.sourceI (t := ss) (b := b) (T := T) hT hS4 hl6 (hR.sub exQ)⟩
 ·
  intro hg hS
  have hno : ofO T.O x = none := by
   cases hv : ofO T.O x with
   | none => rfl
   | some q => rw [hv] at hg; simp at hg
  revert aa
  refine qN hR ?_
  refine qN hR ?_
  intro aa hS
  refine wpList_nil ?_
  refine hK450 _ _ ?_
  refine wp_seq_k ?_; intro K453 hK453
  refine wp_region_lit ?_
  revert aa
  refine qM hR ?_
  refine qA hR rfl (fun _ hS => Yld.not hS rfl) ?_
  intro aa hS
  refine wpList_nil ?_
  refine hK453 _ _ ?_
  refine condT hS rfl ?_
  refine wp_seq_k ?_; intro K454 hK454
  refine wp_region_lit ?_
  revert aa
  refine qN hR ?_
  refine qN hR ?_
  intro aa hS
  refine wpList_nil ?_
  refine hK454 _ _ ?_
  refine wp_ret ?_
  repeat first | with_reducible refine thenR ?_ | with_reducible refine blockR ?_ | with_reducible refine scopeR ?_
  refine retN (fn := Try.f52) (e := .ret) (.inl rfl) Try.results52 hS hR ⟨_, .cons (.tmp rfl) (.cons (.tmp rfl) (.nil)), rfl, ?_⟩
  rw [hno]
  exact ⟨rfl, Sep.sourceI (t := ss) (b := b) (T := T) hT hS4 hl6 (hR.sub exQ)⟩
end Go.Proofs.Ytkhdejjompbklaa.Sx
