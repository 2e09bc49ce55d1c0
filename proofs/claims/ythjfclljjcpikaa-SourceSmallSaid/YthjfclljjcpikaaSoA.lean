/-
 
-/
import Derived.Test.YthjfclljjcpikaaTrI
import Derived.Test.YthjfclljjcpikaaPs
namespace Go.Proofs.Ythjfclljjcpikaa.Sx
open Go
set_option linter.unusedVariables false
set_option linter.unusedSimpArgs false

theorem info46 : Try.prog.info? 46 = some Try.t46 := by kernel_rfl
theorem info47 : Try.prog.info? 47 = some Try.t47 := by kernel_rfl
theorem info49 : Try.prog.info? 49 = some Try.t49 := by kernel_rfl
theorem bld73_1 (x1 : Int) (w : World) : (Instr.build 73 [(1, .int .u32 x1)].toArray).run Try.prog w = .ok (.agg [.int .u8 0, .int .u32 x1, .int .u32 0, .int .u16 0, .int .u16 0].toArray) w := by kernel_rfl

abbrev ss : ST := { T := 51, A := 120, N := 117, I := 3, R := 134, S := 136, L := 123, M := 139, U := 28 }
set_option maxRecDepth 20000 in
theorem sonone_ok {S lim b bo ba bl c : Nat} {r : Option Addr} {l : List HP} {w : World} (hR : Sep (blk b [.int .i64 (lim : Int), .slice r S c, .pointer (some ⟨bo, 0, none⟩), .pointer (some ⟨ba, 0, none⟩), .pointer (some ⟨bl, 0, none⟩)] 51 :: l) w) : CallR Try.prog 31 [.pointer (some ⟨b, 0, none⟩)] w (fun v w' => v = .bool false ∧ Sep (blk b [.int .i64 (lim : Int), .slice r S c, .pointer (some ⟨bo, 0, none⟩), .pointer (some ⟨ba, 0, none⟩), .pointer (some ⟨bl, 0, none⟩)] 51 :: l) w') := by
 refine enter Try.func31 rfl Try.ntmps31 (Nat.le_of_ble_eq_true rfl) ?_; intro aa hS
 refine wp_seq_k ?_; intro K329 hK329
 refine wp_region_lit ?_
 revert aa
 refine qN hR ?_
 intro aa hS
 refine wpList_nil ?_
 refine hK329 _ _ ?_
 refine wp_seq_k ?_; intro K330 hK330
 refine wp_region_lit ?_
 revert aa
 refine qM hR ?_
 refine qA hR rfl (fun _ hS => Yld.eqlNil hS rfl rfl Try.underlying24) ?_
 refine qB (t := 4) false rfl (by rfl) ?_
 refine qM hR ?_
 refine qMg hR ?_
 refine qAg hR rfl rfl rfl (fun _ hS => Yld.nilCheck hS rfl) ?_
 refine qAg hR rfl rfl rfl (fun _ hS => Yld.fieldAddr hS rfl 4 Try.underlying51 rfl rfl info49 (by decide)) ?_
 refine qAg hR rfl rfl rfl (fun _ hS => Yld.load1 hS rfl Try.underlying49 rfl rdQ) ?_
 refine qAg hR rfl rfl rfl (fun _ hS => Yld.eqlNil hS rfl rfl Try.underlying49) ?_
 refine qB (t := 10) false rfl (by rfl) ?_
 refine qA hR rfl (fun _ hS => Yld.pickF hS rfl rfl) ?_
 refine qN hR ?_
 intro aa hS
 refine wpList_nil ?_
 refine hK330 _ _ ?_
 refine wp_ret ?_
 repeat first | with_reducible refine thenR ?_ | with_reducible refine blockR ?_ | with_reducible refine scopeR ?_
 refine ret1 (fn := Try.f31) (e := .ret) (.inl rfl) Try.results31 hS hR ⟨_, (.tmp rfl), ?_⟩
 exact ⟨rfl, (hR.sub exQ)⟩
set_option maxRecDepth 20000 in
theorem soright_ok {S lim b bo ba bl c : Nat} {r : Option Addr} {l : List HP} {w : World} {i : Int} (hR : Sep (blk b [.int .i64 (lim : Int), .slice r S c, .pointer (some ⟨bo, 0, none⟩), .pointer (some ⟨ba, 0, none⟩), .pointer (some ⟨bl, 0, none⟩)] 51 :: l) w) : CallR Try.prog 42 [.pointer (some ⟨b, 0, none⟩), .int .i64 i] w (fun v w' => v = .bool (decide (0 ≤ i ∧ i < S)) ∧ Sep (blk b [.int .i64 (lim : Int), .slice r S c, .pointer (some ⟨bo, 0, none⟩), .pointer (some ⟨ba, 0, none⟩), .pointer (some ⟨bl, 0, none⟩)] 51 :: l) w') := by
 refine enter Try.func42 rfl Try.ntmps42 (Nat.le_of_ble_eq_true rfl) ?_; intro aa hS
 refine wp_seq_k ?_; intro K331 hK331
 refine wp_region_lit ?_
 revert aa
 refine qN hR ?_
 intro aa hS
 refine wpList_nil ?_
 refine hK331 _ _ ?_
 refine wp_seq_k ?_; intro K332 hK332
 refine wp_region_lit ?_
 revert aa
 refine qM hR ?_
 refine qA hR rfl (fun _ hS => Yld.geq hS rfl rfl) ?_
 refine qM hR ?_
 intro aa hS
 refine hS.splitB (t := 7) rfl ?_ ?_ <;> clear hS
 ·
  intro hg hS
  revert aa
  refine qMg hR ?_
  refine qMg hR ?_
  refine qAg hR rfl rfl rfl (fun _ hS => Yld.nilCheck hS rfl) ?_
  refine qAg hR rfl rfl rfl (fun _ hS => Yld.fieldAddr hS rfl 1 Try.underlying51 rfl rfl info46 (by decide)) ?_
  refine qAg hR rfl rfl rfl (fun _ hS => Yld.load1 hS rfl Try.underlying46 rfl rdQ) ?_
  refine qAg hR rfl rfl rfl (fun _ hS => Yld.len hS rfl Try.underlying46) ?_
  refine qAg hR rfl rfl rfl (fun _ hS => Yld.lss hS rfl rfl) ?_
  refine qA hR rfl (fun _ hS => Yld.pickT hS rfl rfl) ?_
  refine qN hR ?_
  intro aa hS
  refine wpList_nil ?_
  refine hK332 _ _ ?_
  refine wp_ret ?_
  repeat first | with_reducible refine thenR ?_ | with_reducible refine blockR ?_ | with_reducible refine scopeR ?_
  refine ret1 (fn := Try.f42) (e := .ret) (.inl rfl) Try.results42 hS hR ⟨_, (.tmp rfl), ?_⟩
  refine ⟨?_, (hR.sub exQ)⟩
  exact dec_iff (by omega)
 ·
  intro hg hS
  revert aa
  refine qZ ?_
  refine qZ ?_
  refine qZ ?_
  refine qZ ?_
  refine qZ ?_
  refine qZ ?_
  refine qZ ?_
  refine qA hR rfl (fun _ hS => Yld.pickF hS rfl rfl) ?_
  refine qN hR ?_
  intro aa hS
  refine wpList_nil ?_
  refine hK332 _ _ ?_
  refine wp_ret ?_
  repeat first | with_reducible refine thenR ?_ | with_reducible refine blockR ?_ | with_reducible refine scopeR ?_
  refine ret1 (fn := Try.f42) (e := .ret) (.inl rfl) Try.results42 hS hR ⟨_, (.tmp rfl), ?_⟩
  refine ⟨?_, (hR.sub exQ)⟩
  exact dec_no (by omega)
set_option maxRecDepth 20000 in
theorem sokey_ok {a : Int} {l : List HP} {w : World} (hR : Sep l w) : CallR Try.prog 33 [.int .u32 a] w (fun v w' => v = vK (kA a) ∧ Sep l w') := by
 refine enter Try.func33 rfl Try.ntmps33 (Nat.le_of_ble_eq_true rfl) ?_; intro aa hS
 refine wp_seq_k ?_; intro K333 hK333
 refine wp_region_lit ?_
 refine sB (Balloc hS hR info73 (by rfl) (by rfl) (by decide) ?_); clear hS hR; intro aa ww bb2 hS hR
 refine wpList_nil ?_
 refine hK333 _ _ ?_
 refine wp_seq_k ?_; intro K334 hK334
 refine wp_region_lit ?_
 revert aa
 refine qM hR ?_
 refine qA hR rfl (fun _ hS => Yld.build hS rfl (bld73_1 _)) ?_
 intro aa hS
 refine sB (Bstore hS hR rfl rfl (by rfl) info73 (by rfl) pkQ (by rfl) (Nat.le_of_ble_eq_true rfl) ?_); clear hR; intro ww hR
 refine wpList_nil ?_
 refine hK334 _ _ ?_
 refine wp_ret ?_
 repeat first | with_reducible refine thenR ?_ | with_reducible refine blockR ?_ | with_reducible refine scopeR ?_
 refine ret1 (fn := Try.f33) (e := .ret) (.inl rfl) Try.results33 hS hR ⟨_, (.agg rfl Try.underlying73 rfl info73 (Rds.cons (Rd.blk pkQ (by rfl)) (Rds.cons (Rd.blk pkQ (by rfl)) (Rds.cons (Rd.blk pkQ (by rfl)) (Rds.cons (Rd.blk pkQ (by rfl)) (Rds.cons (Rd.blk pkQ (by rfl)) (Rds.nil)))))) (by rfl)), ?_⟩
 try dsimp only [lay, List.set] at hR
 exact ⟨rfl, (hR.sub exQ)⟩
set_option maxRecDepth 20000 in
theorem soRecordO_ok {T : So} {us : List Int} {L : Nat → List Nat} {S lim b bo ba bl c : Nat} {r : Option Addr} {a : Int} {l : List HP} {w : World} (hT : SI S lim T L us) (ha : 0 ≤ a ∧ a ≤ 4294967295) (hR : Sep (blk b [.int .i64 (lim : Int), .slice r S c, .pointer (some ⟨bo, 0, none⟩), .pointer (some ⟨ba, 0, none⟩), .pointer (some ⟨bl, 0, none⟩)] 51 :: trieA 120 117 3 bo (ixK T.R) (S : Int) :: linksA 123 139 3 bl S S L :: l) w) : CallR Try.prog 13 [.pointer (some ⟨b, 0, none⟩), .int .u32 a] w (fun v w' => v = optV (rcR T.R a) ∧ Sep (blk b [.int .i64 (lim : Int), .slice r S c, .pointer (some ⟨bo, 0, none⟩), .pointer (some ⟨ba, 0, none⟩), .pointer (some ⟨bl, 0, none⟩)] 51 :: trieA 120 117 3 bo (ixK T.R) (S : Int) :: linksA 123 139 3 bl S S L :: l) w') := by
 refine enter Try.func13 rfl Try.ntmps13 (Nat.le_of_ble_eq_true rfl) ?_; intro aa hS
 refine wp_seq_k ?_; intro K335 hK335
 refine wp_region_lit ?_
 revert aa
 refine qN hR ?_
 refine qN hR ?_
 intro aa hS
 refine wpList_nil ?_
 refine hK335 _ _ ?_
 refine wp_seq_k ?_; intro K336 hK336
 refine wp_seq_k ?_; intro K337 hK337
 refine wp_region_lit ?_
 revert aa
 refine qM hR ?_
 intro aa hS
 refine sB (Bcall hS rfl Try.call31 (sonone_ok (hR.pk (r := blk b _ _) pkQ)) (by decide) ?_); clear hS; intro aa ww vv hS hp
 clear hR
 obtain ⟨rfl, hR⟩ := hp
 refine wpList_nil ?_
 refine hK337 _ _ ?_
 refine condF hS rfl ?_
 refine wp_skip ?_
 refine hK336 _ _ ?_
 refine wp_seq_k ?_; intro K338 hK338
 refine drawn (by kernel_rfl) hR Ex.refl ?_; clear hR; intro ww hR hR0
 revert aa
 refine eA 0 rfl (by kernel_rfl) (fun _ _ _ h => h) hR0 rfl (fun _ hS => Yld.move hS rfl) ?_
 refine eA 1 rfl (by kernel_rfl) (fun _ _ _ h => h) hR0 rfl (fun _ hS => Yld.nilCheck hS rfl) ?_
 refine eA 2 rfl (by kernel_rfl) (fun _ _ _ h => h) hR0 rfl (fun _ hS => Yld.fieldAddr hS rfl 2 Try.underlying51 rfl rfl info47 (by decide)) ?_
 refine eA 3 rfl (by kernel_rfl) (fun _ _ _ h => h) hR0 rfl (fun _ hS => Yld.load1 hS rfl Try.underlying47 rfl rdQ) ?_
 refine eA 4 rfl (by kernel_rfl) (fun _ _ _ h => h) hR0 rfl (fun _ hS => Yld.move hS rfl) ?_
 intro aa hS
 refine dOne (i := 5) (by kernel_rfl) ?_
 refine dop rfl (Bcall hS rfl Try.call33 (sokey_ok hR) (by decide) ?_); clear hS; intro aa ww vv hS hp
 clear hR hR0
 obtain ⟨rfl, hR⟩ := hp
 refine dnext (hR.sub exQ) ?_; intro hR0
 refine dOne (i := 6) (by kernel_rfl) ?_
 refine dop rfl (Bcall hS rfl Try.call32 (Get_ok (k := kA a) (hR.pk (r := trieA _ _ _ bo _ _) pkQ) (kA_wf ha)) (by decide) ?_); clear hS; intro aa ww vv hS hp
 clear hR hR0
 obtain ⟨rfl, hR⟩ := hp
 refine dnext (hR.sub exQ) ?_; intro hR0
 revert aa
 refine eA 7 rfl (by kernel_rfl) (fun _ _ _ h => h) hR0 rfl (fun _ hS => Yld.extract hS rfl rfl) ?_
 refine eA 8 rfl (by kernel_rfl) (fun _ _ _ h => h) hR0 rfl (fun _ hS => Yld.extract hS rfl rfl) ?_
 refine eA 9 rfl (by kernel_rfl) (fun _ _ _ h => h) hR0 rfl (fun _ hS => Yld.assign hS rfl) ?_
 refine eA 10 rfl (by kernel_rfl) (fun _ _ _ h => h) hR0 rfl (fun _ hS => Yld.assign hS rfl) ?_
 intro aa hS
 refine wpAnyH_done (by kernel_rfl) ?_ _; clear hR0
 refine hK338 _ _ ?_
 refine wp_ret ?_
 repeat first | with_reducible refine thenR ?_ | with_reducible refine blockR ?_ | with_reducible refine scopeR ?_
 refine retN (fn := Try.f13) (e := .ret) (.inl rfl) Try.results13 hS hR ⟨_, .cons (.tmp rfl) (.cons (.tmp rfl) (.nil)), rfl, ?_⟩
 exact ⟨ix_optV, (hR.sub exQ)⟩
set_option maxRecDepth 20000 in
theorem soCountO_ok {T : So} {us : List Int} {L : Nat → List Nat} {S lim b bo ba bl c : Nat} {r : Option Addr} {a : Int} {l : List HP} {w : World} (hT : SI S lim T L us) (ha : 0 ≤ a ∧ a ≤ 4294967295) (hR : Sep (blk b [.int .i64 (lim : Int), .slice r S c, .pointer (some ⟨bo, 0, none⟩), .pointer (some ⟨ba, 0, none⟩), .pointer (some ⟨bl, 0, none⟩)] 51 :: trieA 120 117 3 bo (ixK T.R) (S : Int) :: linksA 123 139 3 bl S S L :: l) w) : CallR Try.prog 14 [.pointer (some ⟨b, 0, none⟩), .int .u32 a] w (fun v w' => v = .int .i64 ((slO T.O a).length : Int) ∧ Sep (blk b [.int .i64 (lim : Int), .slice r S c, .pointer (some ⟨bo, 0, none⟩), .pointer (some ⟨ba, 0, none⟩), .pointer (some ⟨bl, 0, none⟩)] 51 :: trieA 120 117 3 bo (ixK T.R) (S : Int) :: linksA 123 139 3 bl S S L :: l) w') := by
 refine enter Try.func14 rfl Try.ntmps14 (Nat.le_of_ble_eq_true rfl) ?_; intro aa hS
 refine wp_seq_k ?_; intro K339 hK339
 refine wp_region_lit ?_
 revert aa
 refine qN hR ?_
 intro aa hS
 refine wpList_nil ?_
 refine hK339 _ _ ?_
 refine wp_seq_k ?_; intro K340 hK340
 refine wp_region_lit ?_
 revert aa
 refine qM hR ?_
 refine qM hR ?_
 intro aa hS
 refine sB (Bcall hS rfl Try.call13 (soRecordO_ok hT ha (((hR.pk (r := linksA _ _ _ bl _ _ _) pkQ).pk (r := trieA _ _ _ bo _ _) pkQ).pk (r := blk b _ _) pkQ)) (by decide) ?_); clear hS; intro aa ww vv hS hp
 clear hR
 obtain ⟨rfl, hR⟩ := hp
 obtain ⟨o, ho⟩ : ∃ y, rcR T.R a = y := ⟨_, rfl⟩
 rw [ho] at hS
 revert aa
 refine qM hR ?_
 refine qX hR ?_
 refine qX hR ?_
 intro aa hS
 refine hS.splitB (t := 12) rfl ?_ ?_ <;> clear hS
 ·
  intro hg hS
  obtain ⟨q, rfl⟩ := Option.isSome_iff_exists.1 hg
  revert aa
  refine qN hR ?_
  refine qN hR ?_
  intro aa hS
  refine wpList_nil ?_
  refine hK340 _ _ ?_
  refine wp_seq_k ?_; intro K341 hK341
  refine wp_seq_k ?_; intro K342 hK342
  refine wp_region_lit ?_
  revert aa
  refine qM hR ?_
  refine qA hR rfl (fun _ hS => Yld.not hS rfl) ?_
  intro aa hS
  refine wpList_nil ?_
  refine hK342 _ _ ?_
  refine condF hS rfl ?_
  refine wp_skip ?_
  refine hK341 _ _ ?_
  refine wp_seq_k ?_; intro K343 hK343
  refine wp_region_lit ?_
  revert aa
  refine qM hR ?_
  refine qA hR rfl (fun _ hS => Yld.nilCheck hS rfl) ?_
  refine qA hR rfl (fun _ hS => Yld.fieldAddr hS rfl 4 Try.underlying51 rfl rfl info49 (by decide)) ?_
  refine qA hR rfl (fun _ hS => Yld.load1 hS rfl Try.underlying49 rfl rdQ) ?_
  refine qM hR ?_
  intro aa hS
  refine sB (Bcall hS rfl Try.call34 (LLen_ok (x := (q : Int)) (hR.pk (r := linksA _ _ _ bl _ _ _) pkQ)) (by decide) ?_); clear hS; intro aa ww vv hS hp
  clear hR
  obtain ⟨rfl, hR⟩ := hp
  rw [hT.all ho] at hS
  revert aa
  refine qN hR ?_
  intro aa hS
  refine wpList_nil ?_
  refine hK343 _ _ ?_
  refine wp_ret ?_
  repeat first | with_reducible refine thenR ?_ | with_reducible refine blockR ?_ | with_reducible refine scopeR ?_
  refine ret1 (fn := Try.f14) (e := .ret) (.inl rfl) Try.results14 hS hR ⟨_, (.tmp rfl), ?_⟩
  exact ⟨rfl, (hR.sub exQ)⟩
 ·
  intro hg hS
  obtain rfl : o = none := by cases o with
   | none => rfl
   | some q => simp at hg
  revert aa
  refine qN hR ?_
  refine qN hR ?_
  intro aa hS
  refine wpList_nil ?_
  refine hK340 _ _ ?_
  refine wp_seq_k ?_; intro K344 hK344
  refine wp_seq_k ?_; intro K345 hK345
  refine wp_region_lit ?_
  revert aa
  refine qM hR ?_
  refine qA hR rfl (fun _ hS => Yld.not hS rfl) ?_
  intro aa hS
  refine wpList_nil ?_
  refine hK345 _ _ ?_
  refine condT hS rfl ?_
  refine wp_seq_k ?_; intro K346 hK346
  refine wp_region_lit ?_
  revert aa
  refine qN hR ?_
  intro aa hS
  refine wpList_nil ?_
  refine hK346 _ _ ?_
  refine wp_ret ?_
  repeat first | with_reducible refine thenR ?_ | with_reducible refine blockR ?_ | with_reducible refine scopeR ?_
  refine ret1 (fn := Try.f14) (e := .ret) (.inl rfl) Try.results14 hS hR ⟨_, (.tmp rfl), ?_⟩
  rw [hT.sf.slNil ho]
  exact ⟨rfl, (hR.sub exQ)⟩
theorem soRecord_ok {T : So} {S lim b : Nat} {l : List HP} {w : World} {a : Int} (ha : 0 ≤ a ∧ a ≤ 4294967295) (hR : Sep (sourceA ss b S lim T :: l) w) : CallR Try.prog 13 [.pointer (some ⟨b, 0, none⟩), .int .u32 a] w (fun v w' => v = optV (rcR T.R a) ∧ Sep (sourceA ss b S lim T :: l) w') := by
 obtain ⟨bo, ba, bl, r, c, L, us, hT, hS4, hl6, hR⟩ := hR.sourceE
 refine CallR.mono (soRecordO_ok hT ha (hR.sub exQ)) ?_; clear hR; intro vv ww hR; obtain ⟨hv, hR⟩ := hR; exact ⟨hv, Sep.sourceI (t := ss) (b := b) (T := T) hT hS4 hl6 (hR.sub exQ)⟩
theorem soCount_ok {T : So} {S lim b : Nat} {l : List HP} {w : World} {a : Int} (ha : 0 ≤ a ∧ a ≤ 4294967295) (hR : Sep (sourceA ss b S lim T :: l) w) : CallR Try.prog 14 [.pointer (some ⟨b, 0, none⟩), .int .u32 a] w (fun v w' => v = .int .i64 ((slO T.O a).length : Int) ∧ Sep (sourceA ss b S lim T :: l) w') := by
 obtain ⟨bo, ba, bl, r, c, L, us, hT, hS4, hl6, hR⟩ := hR.sourceE
 refine CallR.mono (soCountO_ok hT ha (hR.sub exQ)) ?_; clear hR; intro vv ww hR; obtain ⟨hv, hR⟩ := hR; exact ⟨hv, Sep.sourceI (t := ss) (b := b) (T := T) hT hS4 hl6 (hR.sub exQ)⟩
set_option maxRecDepth 20000 in
theorem soRoom_ok {T : So} {S lim b : Nat} {l : List HP} {w : World} {a : Int} (ha : 0 ≤ a ∧ a ≤ 4294967295) (hR : Sep (sourceA ss b S lim T :: l) w) : CallR Try.prog 19 [.pointer (some ⟨b, 0, none⟩), .int .u32 a] w (fun v w' => v = .int .i64 ((lim : Int) - ((slO T.O a).length : Int)) ∧ Sep (sourceA ss b S lim T :: l) w') := by
 refine enter Try.func19 rfl Try.ntmps19 (Nat.le_of_ble_eq_true rfl) ?_; intro aa hS
 obtain ⟨bo, ba, bl, r, c, L, us, hT, hS4, hl6, hR⟩ := (hR.pk (r := sourceA _ b _ _ _) pkQ).sourceE
 dsimp only at hR
 have hSF := hT.sf
 have hul := hT.len
 have hwl := (hR.pk (r := linksA _ _ _ bl _ _ _) pkQ).linksWL
 have hll := hSF.lim a
 refine wp_seq_k ?_; intro K347 hK347
 refine wp_region_lit ?_
 revert aa
 refine qN hR ?_
 intro aa hS
 refine wpList_nil ?_
 refine hK347 _ _ ?_
 refine wp_seq_k ?_; intro K348 hK348
 refine wp_seq_k ?_; intro K349 hK349
 refine wp_region_lit ?_
 revert aa
 refine qM hR ?_
 intro aa hS
 refine sB (Bcall hS rfl Try.call31 (sonone_ok (hR.pk (r := blk b _ _) pkQ)) (by decide) ?_); clear hS; intro aa ww vv hS hp
 clear hR
 obtain ⟨rfl, hR⟩ := hp
 refine wpList_nil ?_
 refine hK349 _ _ ?_
 refine condF hS rfl ?_
 refine wp_skip ?_
 refine hK348 _ _ ?_
 refine wp_seq_k ?_; intro K350 hK350
 refine drawn (by kernel_rfl) hR Ex.refl ?_; clear hR; intro ww hR hR0
 revert aa
 refine eA 0 rfl (by kernel_rfl) (fun _ _ _ h => h) hR0 rfl (fun _ hS => Yld.move hS rfl) ?_
 refine eA 1 rfl (by kernel_rfl) (fun _ _ _ h => h) hR0 rfl (fun _ hS => Yld.nilCheck hS rfl) ?_
 refine eA 2 rfl (by kernel_rfl) (fun _ _ _ h => h) hR0 rfl (fun _ hS => Yld.fieldAddr hS rfl 0 Try.underlying51 rfl rfl info3 (by decide)) ?_
 refine eA 3 rfl (by kernel_rfl) (fun _ _ _ h => h) hR0 rfl (fun _ hS => Yld.load1 hS rfl Try.underlying3 rfl rdQ) ?_
 refine eA 4 rfl (by kernel_rfl) (fun _ _ _ h => h) hR0 rfl (fun _ hS => Yld.move hS rfl) ?_
 refine eA 5 rfl (by kernel_rfl) (fun _ _ _ h => h) hR0 rfl (fun _ hS => Yld.move hS rfl) ?_
 intro aa hS
 refine dOne (i := 6) (by kernel_rfl) ?_
 refine dop rfl (Bcall hS rfl Try.call14 (soCountO_ok hT ha (((hR.pk (r := linksA _ _ _ bl _ _ _) pkQ).pk (r := trieA _ _ _ bo _ _) pkQ).pk (r := blk b _ _) pkQ)) (by decide) ?_); clear hS; intro aa ww vv hS hp
 clear hR hR0
 obtain ⟨rfl, hR⟩ := hp
 refine dnext (hR.sub exQ) ?_; intro hR0
 refine dA 7 rfl (by kernel_rfl) (by kernel_rfl) (by kernel_rfl) (fun _ _ _ h => h) hS hR0 suQ (by decide) ?_; clear hS; intro aa hS
 revert aa
 refine eA 8 rfl (by kernel_rfl) (fun _ _ _ h => h) hR0 rfl (fun _ hS => Yld.assign hS rfl) ?_
 intro aa hS
 refine wpAnyH_done (by kernel_rfl) ?_ _; clear hR0
 refine hK350 _ _ ?_
 refine wp_ret ?_
 repeat first | with_reducible refine thenR ?_ | with_reducible refine blockR ?_ | with_reducible refine scopeR ?_
 refine ret1 (fn := Try.f19) (e := .ret) (.inl rfl) Try.results19 hS hR ⟨_, (.tmp rfl), ?_⟩
 exact ⟨rfl, Sep.sourceI (t := ss) (b := b) (T := T) hT hS4 hl6 (hR.sub exQ)⟩
set_option maxRecDepth 20000 in
theorem soLen_ok {T : So} {S lim b : Nat} {l : List HP} {w : World} (hR : Sep (sourceA ss b S lim T :: l) w) : CallR Try.prog 18 [.pointer (some ⟨b, 0, none⟩)] w (fun v w' => v = .int .i64 (T.R.length : Int) ∧ Sep (sourceA ss b S lim T :: l) w') := by
 refine enter Try.func18 rfl Try.ntmps18 (Nat.le_of_ble_eq_true rfl) ?_; intro aa hS
 obtain ⟨bo, ba, bl, r, c, L, us, hT, hS4, hl6, hR⟩ := (hR.pk (r := sourceA _ b _ _ _) pkQ).sourceE
 dsimp only at hR
 have hSF := hT.sf
 have hul := hT.len
 have hwl := (hR.pk (r := linksA _ _ _ bl _ _ _) pkQ).linksWL
 refine wp_seq_k ?_; intro K351 hK351
 refine wp_region_lit ?_
 revert aa
 refine qN hR ?_
 intro aa hS
 refine wpList_nil ?_
 refine hK351 _ _ ?_
 refine wp_seq_k ?_; intro K352 hK352
 refine wp_seq_k ?_; intro K353 hK353
 refine wp_region_lit ?_
 revert aa
 refine qM hR ?_
 intro aa hS
 refine sB (Bcall hS rfl Try.call31 (sonone_ok (hR.pk (r := blk b _ _) pkQ)) (by decide) ?_); clear hS; intro aa ww vv hS hp
 clear hR
 obtain ⟨rfl, hR⟩ := hp
 refine wpList_nil ?_
 refine hK353 _ _ ?_
 refine condF hS rfl ?_
 refine wp_skip ?_
 refine hK352 _ _ ?_
 refine wp_seq_k ?_; intro K354 hK354
 refine wp_region_lit ?_
 revert aa
 refine qM hR ?_
 refine qA hR rfl (fun _ hS => Yld.nilCheck hS rfl) ?_
 refine qA hR rfl (fun _ hS => Yld.fieldAddr hS rfl 2 Try.underlying51 rfl rfl info47 (by decide)) ?_
 refine qA hR rfl (fun _ hS => Yld.load1 hS rfl Try.underlying47 rfl rdQ) ?_
 intro aa hS
 refine sB (Bcall hS rfl Try.call47 (TLen_ok (hR.pk (r := trieA _ _ _ bo _ _) pkQ)) (by decide) ?_); clear hS; intro aa ww vv hS hp
 clear hR
 obtain ⟨rfl, hR⟩ := hp
 rw [List.length_map] at hS
 revert aa
 refine qN hR ?_
 intro aa hS
 refine wpList_nil ?_
 refine hK354 _ _ ?_
 refine wp_ret ?_
 repeat first | with_reducible refine thenR ?_ | with_reducible refine blockR ?_ | with_reducible refine scopeR ?_
 refine ret1 (fn := Try.f18) (e := .ret) (.inl rfl) Try.results18 hS hR ⟨_, (.tmp rfl), ?_⟩
 exact ⟨rfl, Sep.sourceI (t := ss) (b := b) (T := T) hT hS4 hl6 (hR.sub exQ)⟩
set_option maxRecDepth 20000 in
theorem soSlots_ok {T : So} {S lim b : Nat} {l : List HP} {w : World} {a : Int} (ha : 0 ≤ a ∧ a ≤ 4294967295) (hR : Sep (sourceA ss b S lim T :: l) w) : CallR Try.prog 22 [.pointer (some ⟨b, 0, none⟩), .int .u32 a] w (fun v w' => ∃ r c, v = .slice r (cst (slO T.O a)).length c ∧ Sep (sls r (cst (slO T.O a)).length c 3 1 ((cst (slO T.O a)).flatMap e1) :: sourceA ss b S lim T :: l) w') := by
 refine enter Try.func22 rfl Try.ntmps22 (Nat.le_of_ble_eq_true rfl) ?_; intro aa hS
 obtain ⟨bo, ba, bl, r, c, L, us, hT, hS4, hl6, hR⟩ := (hR.pk (r := sourceA _ b _ _ _) pkQ).sourceE
 dsimp only at hR
 have hSF := hT.sf
 have hul := hT.len
 have hwl := (hR.pk (r := linksA _ _ _ bl _ _ _) pkQ).linksWL
 refine wp_seq_k ?_; intro K355 hK355
 refine wp_region_lit ?_
 revert aa
 refine qN hR ?_
 intro aa hS
 refine wpList_nil ?_
 refine hK355 _ _ ?_
 refine wp_seq_k ?_; intro K356 hK356
 refine wp_region_lit ?_
 revert aa
 refine qM hR ?_
 refine qM hR ?_
 intro aa hS
 refine sB (Bcall hS rfl Try.call13 (soRecordO_ok hT ha (((hR.pk (r := linksA _ _ _ bl _ _ _) pkQ).pk (r := trieA _ _ _ bo _ _) pkQ).pk (r := blk b _ _) pkQ)) (by decide) ?_); clear hS; intro aa ww vv hS hp
 clear hR
 obtain ⟨rfl, hR⟩ := hp
 obtain ⟨o, ho⟩ : ∃ y, rcR T.R a = y := ⟨_, rfl⟩
 rw [ho] at hS
 revert aa
 refine qM hR ?_
 refine qX hR ?_
 refine qX hR ?_
 intro aa hS
 refine hS.splitB (t := 12) rfl ?_ ?_ <;> clear hS
 ·
  intro hg hS
  obtain ⟨q, rfl⟩ := Option.isSome_iff_exists.1 hg
  revert aa
  refine qN hR ?_
  refine qN hR ?_
  intro aa hS
  refine wpList_nil ?_
  refine hK356 _ _ ?_
  refine wp_seq_k ?_; intro K357 hK357
  refine wp_seq_k ?_; intro K358 hK358
  refine wp_region_lit ?_
  revert aa
  refine qM hR ?_
  refine qA hR rfl (fun _ hS => Yld.not hS rfl) ?_
  intro aa hS
  refine wpList_nil ?_
  refine hK358 _ _ ?_
  refine condF hS rfl ?_
  refine wp_skip ?_
  refine hK357 _ _ ?_
  refine wp_seq_k ?_; intro K359 hK359
  refine wp_region_lit ?_
  revert aa
  refine qM hR ?_
  refine qA hR rfl (fun _ hS => Yld.nilCheck hS rfl) ?_
  refine qA hR rfl (fun _ hS => Yld.fieldAddr hS rfl 4 Try.underlying51 rfl rfl info49 (by decide)) ?_
  refine qA hR rfl (fun _ hS => Yld.load1 hS rfl Try.underlying49 rfl rdQ) ?_
  refine qM hR ?_
  intro aa hS
  refine sB (Bcall hS rfl Try.call52 (LAll_ok (q := (q : Int)) (hR.pk (r := linksA _ _ _ bl _ _ _) pkQ)) (by decide) ?_); clear hS; intro aa ww vv hS hp
  clear hR
  obtain ⟨rz, cz, rfl, hR⟩ := hp
  rw [hT.all ho] at hS hR
  revert aa
  refine qN hR ?_
  intro aa hS
  refine wpList_nil ?_
  refine hK359 _ _ ?_
  refine wp_ret ?_
  repeat first | with_reducible refine thenR ?_ | with_reducible refine blockR ?_ | with_reducible refine scopeR ?_
  refine ret1 (fn := Try.f22) (e := .ret) (.inl rfl) Try.results22 hS hR ⟨_, (.tmp rfl), ?_⟩
  replace hR := Sep.sourceI (t := ss) (b := b) (T := T) hT hS4 hl6 (hR.sub exQ : Sep (_ :: _ :: _ :: _ :: _ :: sls rz _ cz 3 1 _ :: l) _)
  exact ⟨rz, cz, rfl, (hR.sub exQ)⟩
 ·
  intro hg hS
  obtain rfl : o = none := by cases o with
   | none => rfl
   | some q => simp at hg
  revert aa
  refine qN hR ?_
  refine qN hR ?_
  intro aa hS
  refine wpList_nil ?_
  refine hK356 _ _ ?_
  refine wp_seq_k ?_; intro K360 hK360
  refine wp_seq_k ?_; intro K361 hK361
  refine wp_region_lit ?_
  revert aa
  refine qM hR ?_
  refine qA hR rfl (fun _ hS => Yld.not hS rfl) ?_
  intro aa hS
  refine wpList_nil ?_
  refine hK361 _ _ ?_
  refine condT hS rfl ?_
  refine wp_seq_k ?_; intro K362 hK362
  refine wp_region_lit ?_
  revert aa
  refine qN hR ?_
  intro aa hS
  refine wpList_nil ?_
  refine hK362 _ _ ?_
  refine wp_ret ?_
  repeat first | with_reducible refine thenR ?_ | with_reducible refine blockR ?_ | with_reducible refine scopeR ?_
  refine ret1 (fn := Try.f22) (e := .ret) (.inl rfl) Try.results22 hS hR ⟨_, (.tmp rfl), ?_⟩
  rw [hSF.slNil ho]
  replace hR := Sep.sourceI (t := ss) (b := b) (T := T) hT hS4 hl6 (hR.sub exQ)
  have h9 : Sep (sls none (cst []).length 0 3 1 ((cst []).flatMap e1) :: sourceA ss b S lim T :: l) _ := hR.slsNil (T := 3) (sz := 1)
  exact ⟨none, 0, rfl, h9⟩
set_option maxRecDepth 20000 in
theorem soOf_ok {T : So} {S lim b : Nat} {l : List HP} {w : World} {x : Int} (hR : Sep (sourceA ss b S lim T :: l) w) : CallR Try.prog 21 [.pointer (some ⟨b, 0, none⟩), .int .i64 x] w (fun v w' => v = .tuple [.int .u32 ((ofO T.O x).getD 0), .bool (ofO T.O x).isSome].toArray ∧ Sep (sourceA ss b S lim T :: l) w') := by
 refine enter Try.func21 rfl Try.ntmps21 (Nat.le_of_ble_eq_true rfl) ?_; intro aa hS
 obtain ⟨bo, ba, bl, r, c, L, us, hT, hS4, hl6, hR⟩ := (hR.pk (r := sourceA _ b _ _ _) pkQ).sourceE
 dsimp only at hR
 have hSF := hT.sf
 have hul := hT.len
 have hwl := (hR.pk (r := linksA _ _ _ bl _ _ _) pkQ).linksWL
 have hop := hT.opt hwl (x := x)
 refine wp_seq_k ?_; intro K363 hK363
 refine wp_region_lit ?_
 revert aa
 refine qN hR ?_
 refine qN hR ?_
 intro aa hS
 refine wpList_nil ?_
 refine hK363 _ _ ?_
 refine wp_seq_k ?_; intro K364 hK364
 refine wp_seq_k ?_; intro K365 hK365
 refine wp_region_lit ?_
 revert aa
 refine qM hR ?_
 intro aa hS
 refine sB (Bcall hS rfl Try.call31 (sonone_ok (hR.pk (r := blk b _ _) pkQ)) (by decide) ?_); clear hS; intro aa ww vv hS hp
 clear hR
 obtain ⟨rfl, hR⟩ := hp
 refine wpList_nil ?_
 refine hK365 _ _ ?_
 refine condF hS rfl ?_
 refine wp_skip ?_
 refine hK364 _ _ ?_
 refine wp_seq_k ?_; intro K366 hK366
 refine wp_seq_k ?_; intro K367 hK367
 refine wp_region_lit ?_
 revert aa
 refine qM hR ?_
 refine qA hR rfl (fun _ hS => Yld.nilCheck hS rfl) ?_
 refine qA hR rfl (fun _ hS => Yld.fieldAddr hS rfl 4 Try.underlying51 rfl rfl info49 (by decide)) ?_
 refine qA hR rfl (fun _ hS => Yld.load1 hS rfl Try.underlying49 rfl rdQ) ?_
 refine qM hR ?_
 intro aa hS
 refine sB (Bcall hS rfl Try.call43 (LOf_ok (x := x) (hR.pk (r := linksA _ _ _ bl _ _ _) pkQ)) (by decide) ?_); clear hS; intro aa ww vv hS hp
 clear hR
 obtain ⟨rfl, hR⟩ := hp
 rw [show optV (ofS S S L x) = .tuple [.int .i64 (((ofS S S L x).getD 0 : Nat) : Int), .bool (ofO T.O x).isSome].toArray from by rw [← hop]] at hS
 revert aa
 refine qM hR ?_
 refine qX hR ?_
 refine qX hR ?_
 intro aa hS
 refine hS.splitB (t := 18) rfl ?_ ?_ <;> clear hS
 ·
  intro hg hS
  obtain ⟨a, hoa⟩ := Option.isSome_iff_exists.1 hg
  obtain ⟨s, q, rfl, hsS, hsm, hsr, hqS, hrc, hof, hol, hsl, hua⟩ := hT.ofSome hwl hoa
  obtain ⟨hux, hue⟩ := List.getElem?_eq_some_iff.1 hua
  revert aa
  refine qN hR ?_
  refine qN hR ?_
  intro aa hS
  refine wpList_nil ?_
  refine hK367 _ _ ?_
  refine wp_seq_k ?_; intro K368 hK368
  refine wp_region_lit ?_
  revert aa
  refine qM hR ?_
  refine qA hR rfl (fun _ hS => Yld.not hS rfl) ?_
  intro aa hS
  refine wpList_nil ?_
  refine hK368 _ _ ?_
  refine condF hS rfl ?_
  refine wp_skip ?_
  refine hK366 _ _ ?_
  refine wp_seq_k ?_; intro K369 hK369
  refine wp_region_lit ?_
  revert aa
  refine qM hR ?_
  refine qA hR rfl (fun _ hS => Yld.nilCheck hS rfl) ?_
  refine qA hR rfl (fun _ hS => Yld.fieldAddr hS rfl 1 Try.underlying51 rfl rfl info46 (by decide)) ?_
  refine qA hR rfl (fun _ hS => Yld.load1 hS rfl Try.underlying46 rfl rdQ) ?_
  refine qM hR ?_
  refine qA hR rfl (fun _ hS => ilQ 1 (s) Try.underlying46 info28) ?_
  refine qA hR rfl (fun _ hS => Yld.load1 hS rfl Try.underlying28 rfl (Rd.rec0 (k := s) (xs := us) (v := .int .u32 a) pkQ (by intro _; rfl) hux (by rw [hue]; rfl))) ?_
  refine qN hR ?_
  refine qN hR ?_
  intro aa hS
  refine wpList_nil ?_
  refine hK369 _ _ ?_
  refine wp_ret ?_
  repeat first | with_reducible refine thenR ?_ | with_reducible refine blockR ?_ | with_reducible refine scopeR ?_
  refine retN (fn := Try.f21) (e := .ret) (.inl rfl) Try.results21 hS hR ⟨_, .cons (.tmp rfl) (.cons (.tmp rfl) (.nil)), rfl, ?_⟩
  rw [hoa]
  exact ⟨rfl, Sep.sourceI (t := ss) (b := b) (T := T) hT hS4 hl6 (hR.sub exQ)⟩
 ·
  intro hg hS
  have hno : ofO T.O x = none := by
   cases hv : ofO T.O x with
   | none => rfl
   | some q => rw [hv] at hg; simp at hg
  revert aa
  refine qN hR ?_
  refine qN hR ?_
  intro aa hS
  refine wpList_nil ?_
  refine hK367 _ _ ?_
  refine wp_seq_k ?_; intro K370 hK370
  refine wp_region_lit ?_
  revert aa
  refine qM hR ?_
  refine qA hR rfl (fun _ hS => Yld.not hS rfl) ?_
  intro aa hS
  refine wpList_nil ?_
  refine hK370 _ _ ?_
  refine condT hS rfl ?_
  refine wp_seq_k ?_; intro K371 hK371
  refine wp_region_lit ?_
  revert aa
  refine qN hR ?_
  refine qN hR ?_
  intro aa hS
  refine wpList_nil ?_
  refine hK371 _ _ ?_
  refine wp_ret ?_
  repeat first | with_reducible refine thenR ?_ | with_reducible refine blockR ?_ | with_reducible refine scopeR ?_
  refine retN (fn := Try.f21) (e := .ret) (.inl rfl) Try.results21 hS hR ⟨_, .cons (.tmp rfl) (.cons (.tmp rfl) (.nil)), rfl, ?_⟩
  rw [hno]
  exact ⟨rfl, Sep.sourceI (t := ss) (b := b) (T := T) hT hS4 hl6 (hR.sub exQ)⟩
end Go.Proofs.Ythjfclljjcpikaa.Sx
