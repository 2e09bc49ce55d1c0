/-
 
-/
import Derived.Test.YtkhdejjompbklaaKSoC
import Derived.Test.YtkhdejjompbklaaKLrC
import Derived.Test.YtkhdejjompbklaaKPz
namespace Go.Proofs.Ytkhdejjompbklaa.Sx
open Go
set_option maxRecDepth 20000
set_option linter.unusedVariables false
set_option linter.unusedSimpArgs false
theorem info31 : Try.prog.info? 31 = some Try.t31 := by kernel_rfl
theorem info71 : Try.prog.info? 71 = some Try.t71 := by kernel_rfl
theorem info72 : Try.prog.info? 72 = some Try.t72 := by kernel_rfl
theorem info73 : Try.prog.info? 73 = some Try.t73 := by kernel_rfl
theorem info75 : Try.prog.info? 75 = some Try.t75 := by kernel_rfl
abbrev dd : DKT := { D := 77, B := 79, U := 112, s := ss }
theorem adnone_ok {now t p u : Int} {S lim b ba bs bo c : Nat} {r : Option Addr} {l : List HP} {w : World} (hR : Sep (blk b [.pointer (some ⟨ba, 0, none⟩), .pointer (some ⟨bs, 0, none⟩), .pointer (some ⟨bo, 0, none⟩), .slice r S c, .int .i64 (S : Int), .int .i64 (lim : Int), .int .i64 t, .int .i64 p, .int .i64 u, .int .i64 now] 77 :: l) w) : CallR Try.prog 28 [.pointer (some ⟨b, 0, none⟩)] w (fun v w' => v = .bool false ∧ Sep (blk b [.pointer (some ⟨ba, 0, none⟩), .pointer (some ⟨bs, 0, none⟩), .pointer (some ⟨bo, 0, none⟩), .slice r S c, .int .i64 (S : Int), .int .i64 (lim : Int), .int .i64 t, .int .i64 p, .int .i64 u, .int .i64 now] 77 :: l) w') := by
 refine enter Try.func28 rfl Try.ntmps28 (Nat.le_of_ble_eq_true rfl) ?_; intro aa hS
 refine wp_seq_k ?_; intro K566 hK566
 refine wp_region_lit ?_
 revert aa
 refine qN hR ?_
 intro aa hS
 refine wpList_nil ?_
 refine hK566 _ _ ?_
 refine wp_seq_k ?_; intro K567 hK567
 refine wp_region_lit ?_
 revert aa
 refine qM hR ?_
 refine qA hR rfl (fun _ hS => Yld.eqlNil hS rfl rfl Try.underlying27) ?_
 refine qB (t := 4) false rfl (by rfl) ?_
 refine qM hR ?_
 refine qMg hR ?_
 refine qAg hR rfl rfl rfl (fun _ hS => Yld.nilCheck hS rfl) ?_
 refine qAg hR rfl rfl rfl (fun _ hS => Yld.fieldAddr hS rfl 0 Try.underlying77 rfl rfl info75 (by decide)) ?_
 refine qAg hR rfl rfl rfl (fun _ hS => Yld.fieldAddr hS rfl 0 Try.underlying75 rfl rfl info70 (by decide)) ?_
 refine qAg hR rfl rfl rfl (fun _ hS => Yld.load1 hS rfl Try.underlying70 rfl rdQ) ?_
 refine qAg hR rfl rfl rfl (fun _ hS => Yld.eqlNil hS rfl rfl Try.underlying70) ?_
 refine qB (t := 11) false rfl (by rfl) ?_
 refine qA hR rfl (fun _ hS => Yld.pickF hS rfl rfl) ?_
 refine qN hR ?_
 intro aa hS
 refine wpList_nil ?_
 refine hK567 _ _ ?_
 refine wp_ret ?_
 repeat first | with_reducible refine thenR ?_ | with_reducible refine blockR ?_ | with_reducible refine scopeR ?_
 refine ret1 (fn := Try.f28) (e := .ret) (.inl rfl) Try.results28 hS hR ⟨_, (.tmp rfl), ?_⟩
 exact ⟨rfl, (hR.sub exQ)⟩
theorem adbucket_ok {T : So} {now t p u : Int} {B : List (Int × Int)} {S lim b ba bs bo c : Nat} {r : Option Addr} {l : List HP} {w : World} {a : Int} (ha : 0 ≤ a ∧ a ≤ 4294967295) {n : Int} (hrr : RR t p u) (hn : 0 ≤ n ∧ n ≤ 1099511627776) (hbl : B.length = S) (hb : ∀ q, rcR T.R a = some q → ∃ c, q < S ∧ B[q]? = some c ∧ RT t p u c.1 c.2 n) (hR : Sep (blk b [.pointer (some ⟨ba, 0, none⟩), .pointer (some ⟨bs, 0, none⟩), .pointer (some ⟨bo, 0, none⟩), .slice r S c, .int .i64 (S : Int), .int .i64 (lim : Int), .int .i64 t, .int .i64 p, .int .i64 u, .int .i64 now] 77 :: sourceA ss bs S lim T :: sls r S c 79 2 (B.flatMap e2) :: l) w) : CallR Try.prog 30 [.pointer (some ⟨b, 0, none⟩), .int .u32 a, .int .i64 n] w (fun v w' => v = .agg [.int .i64 (bkD t p u T B a n), .int .i64 n].toArray ∧ Sep (blk b [.pointer (some ⟨ba, 0, none⟩), .pointer (some ⟨bs, 0, none⟩), .pointer (some ⟨bo, 0, none⟩), .slice r S c, .int .i64 (S : Int), .int .i64 (lim : Int), .int .i64 t, .int .i64 p, .int .i64 u, .int .i64 now] 77 :: sourceA ss bs S lim T :: sls r S c 79 2 (B.flatMap e2) :: l) w') := by
 refine enter Try.func30 rfl Try.ntmps30 (Nat.le_of_ble_eq_true rfl) ?_; intro aa hS
 refine wp_seq_k ?_; intro K568 hK568
 refine wp_region_lit ?_
 refine sB (Balloc hS hR info79 (by rfl) (by rfl) (by decide) ?_); clear hS hR; intro aa ww bb6 hS hR
 refine wpList_nil ?_
 refine hK568 _ _ ?_
 refine wp_seq_k ?_; intro K569 hK569
 refine wp_region_lit ?_
 revert aa
 refine qM hR ?_
 refine qA hR rfl (fun _ hS => Yld.nilCheck hS rfl) ?_
 refine qA hR rfl (fun _ hS => Yld.fieldAddr hS rfl 0 Try.underlying77 rfl rfl info75 (by decide)) ?_
 refine qA hR rfl (fun _ hS => Yld.fieldAddr hS rfl 1 Try.underlying75 rfl rfl info71 (by decide)) ?_
 refine qA hR rfl (fun _ hS => Yld.load1 hS rfl Try.underlying71 rfl rdQ) ?_
 refine qM hR ?_
 intro aa hS
 refine sB (Bcall hS rfl Try.call42 (soRecord_ok ha (hR.pk (r := sourceA _ bs _ _ _) pkQ)) (by decide) ?_); clear hS; intro aa ww vv hS hp
 clear hR
 obtain ⟨rfl, hR⟩ := hp
 obtain ⟨o, ho⟩ : ∃ y, rcR T.R a = y := ⟨_, rfl⟩
 rw [ho] at hS
 revert aa
 refine qM hR ?_
 refine qX hR ?_
 refine qX hR ?_
 intro aa hS
 refine hS.splitB (t := 22) rfl ?_ ?_ <;> clear hS
 ·
  intro hg hS
  obtain ⟨q, rfl⟩ := Option.isSome_iff_exists.1 hg
  obtain ⟨⟨cl, ca⟩, hqS, hqb, hT⟩ := hb q ho
  obtain ⟨hql, hqe⟩ := List.getElem?_eq_some_iff.1 hqb
  revert aa
  refine qN hR ?_
  refine qN hR ?_
  intro aa hS
  refine wpList_nil ?_
  refine hK569 _ _ ?_
  refine wp_seq_k ?_; intro K570 hK570
  refine wp_seq_k ?_; intro K571 hK571
  refine wp_region_lit ?_
  revert aa
  refine qM hR ?_
  refine qA hR rfl (fun _ hS => Yld.not hS rfl) ?_
  intro aa hS
  refine wpList_nil ?_
  refine hK571 _ _ ?_
  refine condF hS rfl ?_
  refine wp_skip ?_
  refine hK570 _ _ ?_
  refine wp_seq_k ?_; intro K572 hK572
  refine drawn krQ hR Ex.refl ?_; clear hR; intro ww hR hR0
  revert aa
  refine eA 0 rfl krQ (fun _ _ _ h => h) hR0 rfl (fun _ hS => Yld.move hS rfl) ?_
  refine eA 1 rfl krQ (fun _ _ _ h => h) hR0 rfl (fun _ hS => Yld.nilCheck hS rfl) ?_
  refine eA 2 rfl krQ (fun _ _ _ h => h) hR0 rfl (fun _ hS => Yld.fieldAddr hS rfl 4 Try.underlying77 rfl rfl info31 (by decide)) ?_
  refine eA 3 rfl krQ (fun _ _ _ h => h) hR0 rfl (fun _ hS => Yld.fieldAddr hS rfl 2 Try.underlying31 rfl rfl info29 (by decide)) ?_
  intro aa hS
  refine dA 4 rfl krQ krQ krQ (fun _ _ _ h => h) hS hR0 (Yld.loadAgg hS rfl Try.underlying29 rfl info29 rdsQ3 (by rfl)) (by decide) ?_; clear hS; intro aa hS
  revert aa
  refine eA 5 rfl krQ (fun _ _ _ h => h) hR0 rfl (fun _ hS => Yld.move hS rfl) ?_
  refine eA 6 rfl krQ (fun _ _ _ h => h) hR0 rfl (fun _ hS => Yld.nilCheck hS rfl) ?_
  refine eA 7 rfl krQ (fun _ _ _ h => h) hR0 rfl (fun _ hS => Yld.fieldAddr hS rfl 0 Try.underlying77 rfl rfl info75 (by decide)) ?_
  refine eA 8 rfl krQ (fun _ _ _ h => h) hR0 rfl (fun _ hS => Yld.fieldAddr hS rfl 3 Try.underlying75 rfl rfl info73 (by decide)) ?_
  refine eA 9 rfl krQ (fun _ _ _ h => h) hR0 rfl (fun _ hS => Yld.load1 hS rfl Try.underlying73 rfl rdQ) ?_
  refine eA 10 rfl krQ (fun _ _ _ h => h) hR0 rfl (fun _ hS => Yld.move hS rfl) ?_
  refine eA 11 rfl krQ (fun _ _ _ h => h) hR0 rfl (fun _ hS => ilQ 2 (q) Try.underlying73 info79) ?_
  refine eA 12 rfl krQ (fun _ _ _ h => h) hR0 rfl (fun _ hS => Yld.loadAgg (vs := [.int .i64 cl, .int .i64 ca]) hS rfl Try.underlying79 rfl info79 (Rds.pairs pkQ hqb) (by rfl)) ?_
  refine eA 13 rfl krQ (fun _ _ _ h => h) hR0 rfl (fun _ hS => Yld.move hS rfl) ?_
  intro aa hS
  refine dTwo (i := 14) (j := 18) krQ ?_ ?_
  ·
   refine dop rfl (Bcall hS rfl Try.call56 (bkFill_ok hR) (by decide) ?_); clear hS; intro aa ww vv hS hp
   clear hR hR0
   obtain ⟨rfl, hR⟩ := hp
   rw [fillF_pos hT] at hS; dsimp only at hS
   refine dnext (hR.sub exQ) ?_; intro hR0
   revert aa
   refine eA 15 rfl krQ (fun _ _ _ h => h) hR0 rfl (fun _ hS => Yld.move hS rfl) ?_
   refine eA 16 rfl krQ (fun _ _ _ h => h) hR0 rfl (fun _ hS => Yld.extract hS rfl rfl) ?_
   refine eA 17 rfl krQ (fun _ _ _ h => h) hR0 rfl (fun _ hS => Yld.extract hS rfl rfl) ?_
   intro aa hS
   refine dOne (i := 18) krQ ?_
   refine dop rfl (Balloc hS hR info79 (by rfl) (by rfl) (by decide) ?_); clear hS hR hR0; intro aa ww bb11 hS hR
   refine dnext (hR.sub exQ) ?_; intro hR0
   refine dOne (i := 19) krQ ?_
   refine dop rfl (Bstore hS hR rfl rfl (by rfl) info79 (by rfl) pkQ (by rfl) (Nat.le_of_ble_eq_true rfl) ?_); clear hR hR0; intro ww hR
   refine dnext (hR.sub exQ) ?_; intro hR0
   revert aa
   refine eA 20 rfl krQ (fun _ _ _ h => h) hR0 rfl (fun _ hS => Yld.assign hS rfl) ?_
   intro aa hS
   refine wpAnyH_done krQ ?_ _; clear hR0
   refine hK572 _ _ ?_
   refine wp_seq_k ?_; intro K573 hK573
   refine wp_region_lit ?_
   refine sA hS hR (Yld.loadAgg hS rfl Try.underlying79 rfl info79 rdsQ2 (by rfl)) (by decide) ?_; clear hS; intro aa hS
   refine sB (Bstore hS hR rfl rfl (by rfl) info79 (by rfl) pkQ (by rfl) (Nat.le_of_ble_eq_true rfl) ?_); clear hR; intro ww hR
   refine wpList_nil ?_
   refine hK573 _ _ ?_
   refine wp_ret ?_
   repeat first | with_reducible refine thenR ?_ | with_reducible refine blockR ?_ | with_reducible refine scopeR ?_
   refine ret1 (fn := Try.f30) (e := .ret) (.inl rfl) Try.results30 hS hR ⟨_, (.agg rfl Try.underlying79 rfl info79 (Rds.cons (Rd.blk pkQ (by rfl)) (Rds.cons (Rd.blk pkQ (by rfl)) (Rds.nil))) (by rfl)), ?_⟩
   rw [bk_some ho hqb]
   exact ⟨rfl, (hR.sub exQ)⟩
  ·
   refine dop rfl (Balloc hS hR info79 (by rfl) (by rfl) (by decide) ?_); clear hS hR hR0; intro aa ww bb11 hS hR
   refine dnext (hR.sub exQ) ?_; intro hR0
   refine dOne (i := 14) krQ ?_
   refine dop rfl (Bcall hS rfl Try.call56 (bkFill_ok hR) (by decide) ?_); clear hS; intro aa ww vv hS hp
   clear hR hR0
   obtain ⟨rfl, hR⟩ := hp
   rw [fillF_pos hT] at hS; dsimp only at hS
   refine dnext (hR.sub exQ) ?_; intro hR0
   revert aa
   refine eA 15 rfl krQ (fun _ _ _ h => h) hR0 rfl (fun _ hS => Yld.move hS rfl) ?_
   refine eA 16 rfl krQ (fun _ _ _ h => h) hR0 rfl (fun _ hS => Yld.extract hS rfl rfl) ?_
   refine eA 17 rfl krQ (fun _ _ _ h => h) hR0 rfl (fun _ hS => Yld.extract hS rfl rfl) ?_
   intro aa hS
   refine dOne (i := 19) krQ ?_
   refine dop rfl (Bstore hS hR rfl rfl (by rfl) info79 (by rfl) pkQ (by rfl) (Nat.le_of_ble_eq_true rfl) ?_); clear hR hR0; intro ww hR
   refine dnext (hR.sub exQ) ?_; intro hR0
   revert aa
   refine eA 20 rfl krQ (fun _ _ _ h => h) hR0 rfl (fun _ hS => Yld.assign hS rfl) ?_
   intro aa hS
   refine wpAnyH_done krQ ?_ _; clear hR0
   refine hK572 _ _ ?_
   refine wp_seq_k ?_; intro K574 hK574
   refine wp_region_lit ?_
   refine sA hS hR (Yld.loadAgg hS rfl Try.underlying79 rfl info79 rdsQ2 (by rfl)) (by decide) ?_; clear hS; intro aa hS
   refine sB (Bstore hS hR rfl rfl (by rfl) info79 (by rfl) pkQ (by rfl) (Nat.le_of_ble_eq_true rfl) ?_); clear hR; intro ww hR
   refine wpList_nil ?_
   refine hK574 _ _ ?_
   refine wp_ret ?_
   repeat first | with_reducible refine thenR ?_ | with_reducible refine blockR ?_ | with_reducible refine scopeR ?_
   refine ret1 (fn := Try.f30) (e := .ret) (.inl rfl) Try.results30 hS hR ⟨_, (.agg rfl Try.underlying79 rfl info79 (Rds.cons (Rd.blk pkQ (by rfl)) (Rds.cons (Rd.blk pkQ (by rfl)) (Rds.nil))) (by rfl)), ?_⟩
   rw [bk_some ho hqb]
   exact ⟨rfl, (hR.sub exQ)⟩
 ·
  intro hg hS
  obtain rfl : o = none := by cases o with
   | none => rfl
   | some q => simp at hg
  revert aa
  refine qN hR ?_
  refine qN hR ?_
  intro aa hS
  refine wpList_nil ?_
  refine hK569 _ _ ?_
  refine wp_seq_k ?_; intro K575 hK575
  refine wp_seq_k ?_; intro K576 hK576
  refine wp_region_lit ?_
  revert aa
  refine qM hR ?_
  refine qA hR rfl (fun _ hS => Yld.not hS rfl) ?_
  intro aa hS
  refine wpList_nil ?_
  refine hK576 _ _ ?_
  refine condT hS rfl ?_
  refine wp_seq_k ?_; intro K577 hK577
  refine wp_region_lit ?_
  revert aa
  refine qM hR ?_
  refine qA hR rfl (fun _ hS => Yld.nilCheck hS rfl) ?_
  refine qA hR rfl (fun _ hS => Yld.fieldAddr hS rfl 4 Try.underlying77 rfl rfl info31 (by decide)) ?_
  refine qA hR rfl (fun _ hS => Yld.fieldAddr hS rfl 2 Try.underlying31 rfl rfl info29 (by decide)) ?_
  intro aa hS
  refine sA hS hR (Yld.loadAgg hS rfl Try.underlying29 rfl info29 rdsQ3 (by rfl)) (by decide) ?_; clear hS; intro aa hS
  revert aa
  refine qM hR ?_
  intro aa hS
  refine sB (Bcall hS rfl Try.call57 (bkFull_ok hR) (by decide) ?_); clear hS; intro aa ww vv hS hp
  clear hR
  obtain ⟨rfl, hR⟩ := hp
  rw [fullF_pos hrr hn] at hS; dsimp only at hS
  revert aa
  refine qM hR ?_
  refine qX hR ?_
  refine qX hR ?_
  intro aa hS
  refine sB (Balloc hS hR info79 (by rfl) (by rfl) (by decide) ?_); clear hS hR; intro aa ww bb9 hS hR
  refine sB (Bstore hS hR rfl rfl (by rfl) info79 (by rfl) pkQ (by rfl) (Nat.le_of_ble_eq_true rfl) ?_); clear hR; intro ww hR
  revert aa
  refine qN hR ?_
  intro aa hS
  refine wpList_nil ?_
  refine hK577 _ _ ?_
  refine wp_seq_k ?_; intro K578 hK578
  refine wp_region_lit ?_
  refine sA hS hR (Yld.loadAgg hS rfl Try.underlying79 rfl info79 rdsQ2 (by rfl)) (by decide) ?_; clear hS; intro aa hS
  refine sB (Bstore hS hR rfl rfl (by rfl) info79 (by rfl) pkQ (by rfl) (Nat.le_of_ble_eq_true rfl) ?_); clear hR; intro ww hR
  refine wpList_nil ?_
  refine hK578 _ _ ?_
  refine wp_ret ?_
  repeat first | with_reducible refine thenR ?_ | with_reducible refine blockR ?_ | with_reducible refine scopeR ?_
  refine ret1 (fn := Try.f30) (e := .ret) (.inl rfl) Try.results30 hS hR ⟨_, (.agg rfl Try.underlying79 rfl info79 (Rds.cons (Rd.blk pkQ (by rfl)) (Rds.cons (Rd.blk pkQ (by rfl)) (Rds.nil))) (by rfl)), ?_⟩
  rw [bk_none ho]
  exact ⟨rfl, (hR.sub exQ)⟩
theorem adtry1_ok {T : So} {now t p u : Int} {S lim b ba bs bo c : Nat} {r : Option Addr} {l : List HP} {w : World} {a : Int} (ha : 0 ≤ a ∧ a ≤ 4294967295) {x3 x5 : Nat} (hR : Sep (blk x3 [.pointer (some ⟨b, 0, none⟩)] 27 :: blk x5 [.int .u32 a] 25 :: blk b [.pointer (some ⟨ba, 0, none⟩), .pointer (some ⟨bs, 0, none⟩), .pointer (some ⟨bo, 0, none⟩), .slice r S c, .int .i64 (S : Int), .int .i64 (lim : Int), .int .i64 t, .int .i64 p, .int .i64 u, .int .i64 now] 77 :: sourceA ss bs S lim T :: l) w) : CallR Try.prog 34 [.pointer (some ⟨x3, 0, none⟩), .pointer (some ⟨x5, 0, none⟩)] w (fun v w' => v = .bool (decide ((lim : Int) - ((slO T.O a).length : Int) = 0)) ∧ Sep (blk x3 [.pointer (some ⟨b, 0, none⟩)] 27 :: blk x5 [.int .u32 a] 25 :: blk b [.pointer (some ⟨ba, 0, none⟩), .pointer (some ⟨bs, 0, none⟩), .pointer (some ⟨bo, 0, none⟩), .slice r S c, .int .i64 (S : Int), .int .i64 (lim : Int), .int .i64 t, .int .i64 p, .int .i64 u, .int .i64 now] 77 :: sourceA ss bs S lim T :: l) w') := by
 refine enter Try.func34 rfl Try.ntmps34 (Nat.le_of_ble_eq_true rfl) ?_; intro aa hS
 refine wp_seq_k ?_; intro K579 hK579
 refine wp_region_lit ?_
 revert aa
 refine qN hR ?_
 intro aa hS
 refine wpList_nil ?_
 refine hK579 _ _ ?_
 refine wp_seq_k ?_; intro K580 hK580
 refine drawn krQ hR Ex.refl ?_; clear hR; intro ww hR hR0
 revert aa
 refine eA 0 rfl krQ (fun _ _ _ h => h) hR0 rfl (fun _ hS => Yld.load1 hS rfl Try.underlying27 rfl rdQ) ?_
 refine eA 1 rfl krQ (fun _ _ _ h => h) hR0 rfl (fun _ hS => Yld.nilCheck hS rfl) ?_
 refine eA 2 rfl krQ (fun _ _ _ h => h) hR0 rfl (fun _ hS => Yld.fieldAddr hS rfl 0 Try.underlying77 rfl rfl info75 (by decide)) ?_
 refine eA 3 rfl krQ (fun _ _ _ h => h) hR0 rfl (fun _ hS => Yld.fieldAddr hS rfl 1 Try.underlying75 rfl rfl info71 (by decide)) ?_
 refine eA 4 rfl krQ (fun _ _ _ h => h) hR0 rfl (fun _ hS => Yld.load1 hS rfl Try.underlying71 rfl rdQ) ?_
 refine eA 5 rfl krQ (fun _ _ _ h => h) hR0 rfl (fun _ hS => Yld.load1 hS rfl Try.underlying25 rfl rdQ) ?_
 intro aa hS
 refine dOne (i := 6) krQ ?_
 refine dop rfl (Bcall hS rfl Try.call35 (soRoom_ok ha (hR.pk (r := sourceA _ bs _ _ _) pkQ)) (by decide) ?_); clear hS; intro aa ww vv hS hp
 clear hR hR0
 obtain ⟨rfl, hR⟩ := hp
 refine dnext (hR.sub exQ) ?_; intro hR0
 revert aa
 refine eA 7 rfl krQ (fun _ _ _ h => h) hR0 rfl (fun _ hS => Yld.eql hS rfl rfl) ?_
 refine eA 8 rfl krQ (fun _ _ _ h => h) hR0 rfl (fun _ hS => Yld.assign hS rfl) ?_
 intro aa hS
 refine wpAnyH_done krQ ?_ _; clear hR0
 refine hK580 _ _ ?_
 refine wp_ret ?_
 repeat first | with_reducible refine thenR ?_ | with_reducible refine blockR ?_ | with_reducible refine scopeR ?_
 refine ret1 (fn := Try.f34) (e := .ret) (.inl rfl) Try.results34 hS hR ⟨_, (.tmp rfl), ?_⟩
 exact ⟨rfl, (hR.sub exQ)⟩
theorem adtry2_ok {l : List HP} {w : World} {e : Int} {x10 : Nat} (hR : Sep (blk x10 [.int .i64 e] 37 :: l) w) : CallR Try.prog 36 [.pointer (some ⟨x10, 0, none⟩)] w (fun v w' => v = .bool (decide (¬ e = 0)) ∧ Sep (blk x10 [.int .i64 e] 37 :: l) w') := by
 refine enter Try.func36 rfl Try.ntmps36 (Nat.le_of_ble_eq_true rfl) ?_; intro aa hS
 refine wp_seq_k ?_; intro K581 hK581
 refine wp_region_lit ?_
 revert aa
 refine qN hR ?_
 intro aa hS
 refine wpList_nil ?_
 refine hK581 _ _ ?_
 refine wp_seq_k ?_; intro K582 hK582
 refine wp_region_lit ?_
 revert aa
 refine qA hR rfl (fun _ hS => Yld.load1 hS rfl Try.underlying37 rfl rdQ) ?_
 refine qA hR rfl (fun _ hS => Yld.neq hS rfl rfl) ?_
 refine qN hR ?_
 intro aa hS
 refine wpList_nil ?_
 refine hK582 _ _ ?_
 refine wp_ret ?_
 repeat first | with_reducible refine thenR ?_ | with_reducible refine blockR ?_ | with_reducible refine scopeR ?_
 refine ret1 (fn := Try.f36) (e := .ret) (.inl rfl) Try.results36 hS hR ⟨_, (.tmp rfl), ?_⟩
 exact ⟨rfl, (hR.sub exQ)⟩
theorem adtry3_no {ord : List Nat} {tm : Nat → Int} {un now t p u : Int} {S lim b ba bs bo c : Nat} {r : Option Addr} {l : List HP} {w : World} {x3 x8 : Nat} (hR : Sep (blk x8 [.bool false] 4 :: blk x3 [.pointer (some ⟨b, 0, none⟩)] 27 :: blk b [.pointer (some ⟨ba, 0, none⟩), .pointer (some ⟨bs, 0, none⟩), .pointer (some ⟨bo, 0, none⟩), .slice r S c, .int .i64 (S : Int), .int .i64 (lim : Int), .int .i64 t, .int .i64 p, .int .i64 u, .int .i64 now] 77 :: lruA 112 142 160 3 bo S ord tm un :: l) w) : CallR Try.prog 37 [.pointer (some ⟨x8, 0, none⟩), .pointer (some ⟨x3, 0, none⟩)] w (fun v w' => v = .bool false ∧ Sep (blk x8 [.bool false] 4 :: blk x3 [.pointer (some ⟨b, 0, none⟩)] 27 :: blk b [.pointer (some ⟨ba, 0, none⟩), .pointer (some ⟨bs, 0, none⟩), .pointer (some ⟨bo, 0, none⟩), .slice r S c, .int .i64 (S : Int), .int .i64 (lim : Int), .int .i64 t, .int .i64 p, .int .i64 u, .int .i64 now] 77 :: lruA 112 142 160 3 bo S ord tm un :: l) w') := by
 refine enter Try.func37 rfl Try.ntmps37 (Nat.le_of_ble_eq_true rfl) ?_; intro aa hS
 refine wp_seq_k ?_; intro K583 hK583
 refine wp_region_lit ?_
 revert aa
 refine qN hR ?_
 intro aa hS
 refine wpList_nil ?_
 refine hK583 _ _ ?_
 refine wp_seq_k ?_; intro K584 hK584
 refine wp_region_lit ?_
 revert aa
 refine qA hR rfl (fun _ hS => Yld.load1 hS rfl Try.underlying4 rfl rdQ) ?_
 refine qM hR ?_
 refine qB (t := 4) false rfl (by rfl) ?_
 refine qZ ?_
 refine qZ ?_
 refine qZ ?_
 refine qZ ?_
 refine qZ ?_
 refine qZ ?_
 refine qZ ?_
 refine qA hR rfl (fun _ hS => Yld.pickF hS rfl rfl) ?_
 refine qN hR ?_
 intro aa hS
 refine wpList_nil ?_
 refine hK584 _ _ ?_
 refine wp_ret ?_
 repeat first | with_reducible refine thenR ?_ | with_reducible refine blockR ?_ | with_reducible refine scopeR ?_
 refine ret1 (fn := Try.f37) (e := .ret) (.inl rfl) Try.results37 hS hR ⟨_, (.tmp rfl), ?_⟩
 exact ⟨rfl, (hR.sub exQ)⟩
theorem adtry3_yes {ord : List Nat} {tm : Nat → Int} {un now t p u : Int} {S lim b ba bs bo c : Nat} {r : Option Addr} {l : List HP} {w : World} {x3 x8 : Nat} (hR : Sep (blk x8 [.bool true] 4 :: blk x3 [.pointer (some ⟨b, 0, none⟩)] 27 :: blk b [.pointer (some ⟨ba, 0, none⟩), .pointer (some ⟨bs, 0, none⟩), .pointer (some ⟨bo, 0, none⟩), .slice r S c, .int .i64 (S : Int), .int .i64 (lim : Int), .int .i64 t, .int .i64 p, .int .i64 u, .int .i64 now] 77 :: lruA 112 142 160 3 bo S ord tm un :: l) w) : CallR Try.prog 37 [.pointer (some ⟨x8, 0, none⟩), .pointer (some ⟨x3, 0, none⟩)] w (fun v w' => v = .bool (decide ((ord.length : Int) = 0)) ∧ Sep (blk x8 [.bool true] 4 :: blk x3 [.pointer (some ⟨b, 0, none⟩)] 27 :: blk b [.pointer (some ⟨ba, 0, none⟩), .pointer (some ⟨bs, 0, none⟩), .pointer (some ⟨bo, 0, none⟩), .slice r S c, .int .i64 (S : Int), .int .i64 (lim : Int), .int .i64 t, .int .i64 p, .int .i64 u, .int .i64 now] 77 :: lruA 112 142 160 3 bo S ord tm un :: l) w') := by
 refine enter Try.func37 rfl Try.ntmps37 (Nat.le_of_ble_eq_true rfl) ?_; intro aa hS
 refine wp_seq_k ?_; intro K585 hK585
 refine wp_region_lit ?_
 revert aa
 refine qN hR ?_
 intro aa hS
 refine wpList_nil ?_
 refine hK585 _ _ ?_
 refine wp_seq_k ?_; intro K586 hK586
 refine wp_region_lit ?_
 revert aa
 refine qA hR rfl (fun _ hS => Yld.load1 hS rfl Try.underlying4 rfl rdQ) ?_
 refine qM hR ?_
 refine qB (t := 4) true rfl (by rfl) ?_
 refine qAg hR rfl rfl rfl (fun _ hS => Yld.load1 hS rfl Try.underlying27 rfl rdQ) ?_
 refine qAg hR rfl rfl rfl (fun _ hS => Yld.nilCheck hS rfl) ?_
 refine qAg hR rfl rfl rfl (fun _ hS => Yld.fieldAddr hS rfl 0 Try.underlying77 rfl rfl info75 (by decide)) ?_
 refine qAg hR rfl rfl rfl (fun _ hS => Yld.fieldAddr hS rfl 2 Try.underlying75 rfl rfl info72 (by decide)) ?_
 refine qAg hR rfl rfl rfl (fun _ hS => Yld.load1 hS rfl Try.underlying72 rfl rdQ) ?_
 intro aa hS
 refine sBg hS rfl rfl (Bcall hS rfl Try.call38 (lrLen_ok (hR.pk (r := lruA _ _ _ _ bo _ _ _ _) pkQ)) (by decide) ?_); clear hS; intro aa ww vv hS hp
 clear hR
 obtain ⟨rfl, hR⟩ := hp
 revert aa
 refine qAg hR rfl rfl rfl (fun _ hS => Yld.eql hS rfl rfl) ?_
 refine qA hR rfl (fun _ hS => Yld.pickT hS rfl rfl) ?_
 refine qN hR ?_
 intro aa hS
 refine wpList_nil ?_
 refine hK586 _ _ ?_
 refine wp_ret ?_
 repeat first | with_reducible refine thenR ?_ | with_reducible refine blockR ?_ | with_reducible refine scopeR ?_
 refine ret1 (fn := Try.f37) (e := .ret) (.inl rfl) Try.results37 hS hR ⟨_, (.tmp rfl), ?_⟩
 exact ⟨rfl, (hR.sub exQ)⟩
theorem adopen_ok {A : Ar} {T : So} {ord : List Nat} {tm : Nat → Int} {un now t p u : Int} {S lim b ba bs bo c : Nat} {r : Option Addr} {l : List HP} {w : World} {a : Int} (ha : 0 ≤ a ∧ a ≤ 4294967295) {s : Nat} {fs : List Nat} (he : A.free = s :: fs) (hs : s < S) (hn : ofO T.O (s : Int) = none) (hl : (slO T.O a).length < lim) (hno : s ∉ ord) (hun : 0 ≤ un ∧ un ≤ 4611686018427387904) (hR : Sep (blk b [.pointer (some ⟨ba, 0, none⟩), .pointer (some ⟨bs, 0, none⟩), .pointer (some ⟨bo, 0, none⟩), .slice r S c, .int .i64 (S : Int), .int .i64 (lim : Int), .int .i64 t, .int .i64 p, .int .i64 u, .int .i64 now] 77 :: arena 110 136 ba A :: sourceA ss bs S lim T :: lruA 112 142 160 3 bo S ord tm un :: l) w) : CallR Try.prog 41 [.pointer (some ⟨b, 0, none⟩), .int .u32 a] w (fun v w' => v = .int .i64 (s : Int) ∧ Sep (blk b [.pointer (some ⟨ba, 0, none⟩), .pointer (some ⟨bs, 0, none⟩), .pointer (some ⟨bo, 0, none⟩), .slice r S c, .int .i64 (S : Int), .int .i64 (lim : Int), .int .i64 t, .int .i64 p, .int .i64 u, .int .i64 now] 77 :: arena 110 136 ba A.take :: sourceA ss bs S lim (addO T a s) :: lruA 112 142 160 3 bo S (ord ++ [s]) (upd tm s (un + 1)) (un + 1) :: l) w') := by
 refine enter Try.func41 rfl Try.ntmps41 (Nat.le_of_ble_eq_true rfl) ?_; intro aa hS
 refine wp_seq_k ?_; intro K587 hK587
 refine wp_region_lit ?_
 revert aa
 refine qN hR ?_
 intro aa hS
 refine wpList_nil ?_
 refine hK587 _ _ ?_
 refine wp_seq_k ?_; intro K588 hK588
 refine wp_region_lit ?_
 revert aa
 refine qM hR ?_
 refine qA hR rfl (fun _ hS => Yld.nilCheck hS rfl) ?_
 refine qA hR rfl (fun _ hS => Yld.fieldAddr hS rfl 0 Try.underlying77 rfl rfl info75 (by decide)) ?_
 refine qA hR rfl (fun _ hS => Yld.fieldAddr hS rfl 0 Try.underlying75 rfl rfl info70 (by decide)) ?_
 refine qA hR rfl (fun _ hS => Yld.load1 hS rfl Try.underlying70 rfl rdQ) ?_
 intro aa hS
 refine sB (Bcall hS rfl Try.call66 (Take_okA (hR.pk (r := arena _ _ ba _) pkQ)) (by decide) ?_); clear hS; intro aa ww vv hS hp
 clear hR
 obtain ⟨rfl, hR⟩ := hp
 rw [Ar.top_eq he] at hS
 revert aa
 refine qM hR ?_
 refine qX hR ?_
 refine qX hR ?_
 intro aa hS
 refine sB (Balloc hS hR info116 (by rfl) (by rfl) (by decide) ?_); clear hS hR; intro aa ww bb5 hS hR
 refine sB (Bstore hS hR rfl rfl (by rfl) info116 (by rfl) pkQ (by rfl) (Nat.le_of_ble_eq_true rfl) ?_); clear hR; intro ww hR
 revert aa
 refine qN hR ?_
 intro aa hS
 refine wpList_nil ?_
 refine hK588 _ _ ?_
 refine wp_seq_k ?_; intro K589 hK589
 refine drawn krQ hR (Ex.of_pk (r := sourceA _ bs _ _ _) pkQ) ?_; clear hR; intro ww hR hR0
 revert aa
 refine eA 0 rfl krQ (fun _ _ _ h => h) hR0 rfl (fun _ hS => Yld.move hS rfl) ?_
 refine eA 1 rfl krQ (fun _ _ _ h => h) hR0 rfl (fun _ hS => Yld.nilCheck hS rfl) ?_
 refine eA 2 rfl krQ (fun _ _ _ h => h) hR0 rfl (fun _ hS => Yld.fieldAddr hS rfl 0 Try.underlying77 rfl rfl info75 (by decide)) ?_
 refine eA 3 rfl krQ (fun _ _ _ h => h) hR0 rfl (fun _ hS => Yld.fieldAddr hS rfl 1 Try.underlying75 rfl rfl info71 (by decide)) ?_
 refine eA 4 rfl krQ (fun _ _ _ h => h) hR0 rfl (fun _ hS => Yld.load1 hS rfl Try.underlying71 rfl rdQ) ?_
 refine eA 5 rfl krQ (fun _ _ _ h => h) hR0 rfl (fun _ hS => Yld.move hS rfl) ?_
 refine eA 6 rfl krQ (fun _ _ _ h => h) hR0 rfl (fun _ hS => Yld.fieldAddr hS rfl 0 Try.underlying116 rfl rfl info3 (by decide)) ?_
 refine eA 7 rfl krQ (fun _ _ _ h => h) hR0 rfl (fun _ hS => Yld.load1 hS rfl Try.underlying3 rfl rdQ) ?_
 intro aa hS
 refine dOne (i := 8) krQ ?_
 refine dop rfl (Bcall hS rfl Try.call67 (soOpen_ok ha (hR.pk (r := sourceA _ bs _ _ _) pkQ)) (by decide) ?_); clear hS; intro aa ww vv hS hp
 clear hR hR0
 obtain ⟨rfl, hR⟩ := hp
 rw [(opn_ok hs hn hl).2] at hR
 refine dnext (hR.sub exQ) ?_; intro hR0
 refine wpAnyH_done krQ ?_ _; clear hR0
 refine hK589 _ _ ?_
 refine wp_seq_k ?_; intro K590 hK590
 refine drawn krQ hR (Ex.of_pk (r := lruA _ _ _ _ bo _ _ _ _) pkQ) ?_; clear hR; intro ww hR hR0
 revert aa
 refine eA 0 rfl krQ (fun _ _ _ h => h) hR0 rfl (fun _ hS => Yld.move hS rfl) ?_
 refine eA 1 rfl krQ (fun _ _ _ h => h) hR0 rfl (fun _ hS => Yld.nilCheck hS rfl) ?_
 refine eA 2 rfl krQ (fun _ _ _ h => h) hR0 rfl (fun _ hS => Yld.fieldAddr hS rfl 0 Try.underlying77 rfl rfl info75 (by decide)) ?_
 refine eA 3 rfl krQ (fun _ _ _ h => h) hR0 rfl (fun _ hS => Yld.fieldAddr hS rfl 2 Try.underlying75 rfl rfl info72 (by decide)) ?_
 refine eA 4 rfl krQ (fun _ _ _ h => h) hR0 rfl (fun _ hS => Yld.load1 hS rfl Try.underlying72 rfl rdQ) ?_
 refine eA 5 rfl krQ (fun _ _ _ h => h) hR0 rfl (fun _ hS => Yld.fieldAddr hS rfl 0 Try.underlying116 rfl rfl info3 (by decide)) ?_
 refine eA 6 rfl krQ (fun _ _ _ h => h) hR0 rfl (fun _ hS => Yld.load1 hS rfl Try.underlying3 rfl rdQ) ?_
 intro aa hS
 refine dOne (i := 7) krQ ?_
 refine dop rfl (Bcall hS rfl Try.call54 (lrSee_ok (i := (s : Int)) (hR.pk (r := lruA _ _ _ _ bo _ _ _ _) pkQ) hun) (by decide) ?_); clear hS; intro aa ww vv hS hp
 clear hR hR0
 obtain ⟨rfl, hR⟩ := hp
 rw [(see_new (tm := tm) (un := un) hs hno).1, (see_new (ord := ord) (tm := tm) (un := un) hs hno).2.1, (see_new (ord := ord) (tm := tm) (un := un) hs hno).2.2] at hR
 refine dnext (hR.sub exQ) ?_; intro hR0
 refine wpAnyH_done krQ ?_ _; clear hR0
 refine hK590 _ _ ?_
 refine wp_seq_k ?_; intro K591 hK591
 refine wp_region_lit ?_
 revert aa
 refine qA hR rfl (fun _ hS => Yld.fieldAddr hS rfl 0 Try.underlying116 rfl rfl info3 (by decide)) ?_
 refine qA hR rfl (fun _ hS => Yld.load1 hS rfl Try.underlying3 rfl rdQ) ?_
 refine qN hR ?_
 intro aa hS
 refine wpList_nil ?_
 refine hK591 _ _ ?_
 refine wp_ret ?_
 repeat first | with_reducible refine thenR ?_ | with_reducible refine blockR ?_ | with_reducible refine scopeR ?_
 refine ret1 (fn := Try.f41) (e := .ret) (.inl rfl) Try.results41 hS hR ⟨_, (.tmp rfl), ?_⟩
 exact ⟨rfl, (hR.sub exQ)⟩
theorem adclose_ok {A : Ar} {T : So} {ord : List Nat} {tm : Nat → Int} {un now t p u : Int} {S lim b ba bs bo c : Nat} {r : Option Addr} {l : List HP} {w : World} {a : Int} {s : Nat} {v0 : Int} (hs : s < S) (hq : ofO T.O (s : Int) = some a) (hv : A.at (s : Int) = some v0) (hR : Sep (blk b [.pointer (some ⟨ba, 0, none⟩), .pointer (some ⟨bs, 0, none⟩), .pointer (some ⟨bo, 0, none⟩), .slice r S c, .int .i64 (S : Int), .int .i64 (lim : Int), .int .i64 t, .int .i64 p, .int .i64 u, .int .i64 now] 77 :: arena 110 136 ba A :: sourceA ss bs S lim T :: lruA 112 142 160 3 bo S ord tm un :: l) w) : CallR Try.prog 40 [.pointer (some ⟨b, 0, none⟩), .int .i64 (s : Int)] w (fun v w' => v = .tuple [].toArray ∧ Sep (blk b [.pointer (some ⟨ba, 0, none⟩), .pointer (some ⟨bs, 0, none⟩), .pointer (some ⟨bo, 0, none⟩), .slice r S c, .int .i64 (S : Int), .int .i64 (lim : Int), .int .i64 t, .int .i64 p, .int .i64 u, .int .i64 now] 77 :: arena 110 136 ba (A.give s) :: sourceA ss bs S lim (remO T a s) :: lruA 112 142 160 3 bo S (ord.erase s) tm un :: l) w') := by
 refine enter Try.func40 rfl Try.ntmps40 (Nat.le_of_ble_eq_true rfl) ?_; intro aa hS
 refine wp_seq_k ?_; intro K592 hK592
 refine wp_region_lit ?_
 revert aa
 refine qM hR ?_
 refine qA hR rfl (fun _ hS => Yld.nilCheck hS rfl) ?_
 refine qA hR rfl (fun _ hS => Yld.fieldAddr hS rfl 0 Try.underlying77 rfl rfl info75 (by decide)) ?_
 refine qA hR rfl (fun _ hS => Yld.fieldAddr hS rfl 1 Try.underlying75 rfl rfl info71 (by decide)) ?_
 refine qA hR rfl (fun _ hS => Yld.load1 hS rfl Try.underlying71 rfl rdQ) ?_
 refine qM hR ?_
 intro aa hS
 refine sB (Bcall hS rfl Try.call63 (soClose_ok (x := (s : Int)) (hR.pk (r := sourceA _ bs _ _ _) pkQ)) (by decide) ?_); clear hS; intro aa ww vv hS hp
 clear hR
 obtain ⟨rfl, hR⟩ := hp
 rw [(cls_ok hs hq).2] at hR
 refine wpList_nil ?_
 refine hK592 _ _ ?_
 refine wp_seq_k ?_; intro K593 hK593
 refine wp_region_lit ?_
 revert aa
 refine qM hR ?_
 refine qA hR rfl (fun _ hS => Yld.nilCheck hS rfl) ?_
 refine qA hR rfl (fun _ hS => Yld.fieldAddr hS rfl 0 Try.underlying77 rfl rfl info75 (by decide)) ?_
 refine qA hR rfl (fun _ hS => Yld.fieldAddr hS rfl 2 Try.underlying75 rfl rfl info72 (by decide)) ?_
 refine qA hR rfl (fun _ hS => Yld.load1 hS rfl Try.underlying72 rfl rdQ) ?_
 refine qM hR ?_
 intro aa hS
 refine sB (Bcall hS rfl Try.call51 (lrOut_ok (i := (s : Int)) (hR.pk (r := lruA _ _ _ _ bo _ _ _ _) pkQ)) (by decide) ?_); clear hS; intro aa ww vv hS hp
 clear hR
 obtain ⟨rfl, hR⟩ := hp
 rw [(see_at (ord := ord) (tm := tm) (un := un) hs).2.2.2] at hR
 refine wpList_nil ?_
 refine hK593 _ _ ?_
 refine wp_seq_k ?_; intro K594 hK594
 refine wp_region_lit ?_
 revert aa
 refine qM hR ?_
 refine qA hR rfl (fun _ hS => Yld.nilCheck hS rfl) ?_
 refine qA hR rfl (fun _ hS => Yld.fieldAddr hS rfl 0 Try.underlying77 rfl rfl info75 (by decide)) ?_
 refine qA hR rfl (fun _ hS => Yld.fieldAddr hS rfl 0 Try.underlying75 rfl rfl info70 (by decide)) ?_
 refine qA hR rfl (fun _ hS => Yld.load1 hS rfl Try.underlying70 rfl rdQ) ?_
 refine qM hR ?_
 intro aa hS
 refine sB (Bcall hS rfl Try.call64 (At_okA (s := (s : Int)) (hR.pk (r := arena _ _ ba _) pkQ)) (by decide) ?_); clear hS; intro aa ww vv hS hp
 clear hR
 obtain ⟨rfl, hR⟩ := hp
 rw [atV_some hv] at hS
 revert aa
 refine qM hR ?_
 refine qX hR ?_
 refine qX hR ?_
 intro aa hS
 refine sB (Balloc hS hR info116 (by rfl) (by rfl) (by decide) ?_); clear hS hR; intro aa ww bb4 hS hR
 refine sB (Bstore hS hR rfl rfl (by rfl) info116 (by rfl) pkQ (by rfl) (Nat.le_of_ble_eq_true rfl) ?_); clear hR; intro ww hR
 revert aa
 refine qN hR ?_
 intro aa hS
 refine wpList_nil ?_
 refine hK594 _ _ ?_
 refine drawn krQ hR (Ex.of_pk (r := arena _ _ ba _) pkQ) ?_; clear hR; intro ww hR hR0
 revert aa
 refine eA 0 rfl krQ (fun _ _ _ h => h) hR0 rfl (fun _ hS => Yld.move hS rfl) ?_
 refine eA 1 rfl krQ (fun _ _ _ h => h) hR0 rfl (fun _ hS => Yld.nilCheck hS rfl) ?_
 refine eA 2 rfl krQ (fun _ _ _ h => h) hR0 rfl (fun _ hS => Yld.fieldAddr hS rfl 0 Try.underlying77 rfl rfl info75 (by decide)) ?_
 refine eA 3 rfl krQ (fun _ _ _ h => h) hR0 rfl (fun _ hS => Yld.fieldAddr hS rfl 0 Try.underlying75 rfl rfl info70 (by decide)) ?_
 refine eA 4 rfl krQ (fun _ _ _ h => h) hR0 rfl (fun _ hS => Yld.load1 hS rfl Try.underlying70 rfl rdQ) ?_
 intro aa hS
 refine dA 5 rfl krQ krQ krQ (fun _ _ _ h => h) hS hR0 (Yld.loadAgg hS rfl Try.underlying116 rfl info116 rdsQ2 (by rfl)) (by decide) ?_; clear hS; intro aa hS
 refine dOne (i := 6) krQ ?_
 refine dop rfl (Bcall hS rfl Try.call65 (Give_okA (s := (s : Int)) (u := v0) (hR.pk (r := arena _ _ ba _) pkQ)) (by decide) ?_); clear hS; intro aa ww vv hS hp
 clear hR hR0
 obtain ⟨rfl, hR⟩ := hp
 rw [Ar.giveH_yes hv] at hR
 refine dnext (hR.sub exQ) ?_; intro hR0
 refine wpAnyH_done krQ ?_ _; clear hR0
 repeat (first | with_reducible refine thenX ?_ | with_reducible refine blockX ?_ | with_reducible refine blockY (by rfl) ?_)
 refine retN (fn := Try.f40) (e := .normal) (.inr rfl) Try.results40 hS hR ⟨_, .nil, rfl, ?_⟩
 exact ⟨rfl, (hR.sub exQ)⟩
theorem aderror_ok {A : Ar} {T : So} {now t p u : Int} {S lim b ba bs bo c : Nat} {r : Option Addr} {l : List HP} {w : World} {x : Int} (hat : (A.at x).isSome = (ofO T.O x).isSome) (hR : Sep (blk b [.pointer (some ⟨ba, 0, none⟩), .pointer (some ⟨bs, 0, none⟩), .pointer (some ⟨bo, 0, none⟩), .slice r S c, .int .i64 (S : Int), .int .i64 (lim : Int), .int .i64 t, .int .i64 p, .int .i64 u, .int .i64 now] 77 :: arena 110 136 ba A :: l) w) : CallR Try.prog 44 [.pointer (some ⟨b, 0, none⟩), .int .i64 x] w (fun v w' => v = .int .i64 (clsE S T x) ∧ Sep (blk b [.pointer (some ⟨ba, 0, none⟩), .pointer (some ⟨bs, 0, none⟩), .pointer (some ⟨bo, 0, none⟩), .slice r S c, .int .i64 (S : Int), .int .i64 (lim : Int), .int .i64 t, .int .i64 p, .int .i64 u, .int .i64 now] 77 :: arena 110 136 ba A :: l) w') := by
 refine enter Try.func44 rfl Try.ntmps44 (Nat.le_of_ble_eq_true rfl) ?_; intro aa hS
 refine wp_seq_k ?_; intro K595 hK595
 refine wp_region_lit ?_
 revert aa
 refine qN hR ?_
 intro aa hS
 refine wpList_nil ?_
 refine hK595 _ _ ?_
 refine wp_seq_k ?_; intro K596 hK596
 refine wp_seq_k ?_; intro K597 hK597
 refine wp_region_lit ?_
 revert aa
 refine qM hR ?_
 intro aa hS
 refine sB (Bcall hS rfl Try.call28 (adnone_ok (hR.pk (r := blk b _ 77) pkQ)) (by decide) ?_); clear hS; intro aa ww vv hS hp
 clear hR
 obtain ⟨rfl, hR⟩ := hp
 refine wpList_nil ?_
 refine hK597 _ _ ?_
 refine condF hS rfl ?_
 refine wp_skip ?_
 refine hK596 _ _ ?_
 refine wp_seq_k ?_; intro K598 hK598
 refine wp_seq_k ?_; intro K599 hK599
 refine wp_region_lit ?_
 revert aa
 refine qM hR ?_
 refine qA hR rfl (fun _ hS => Yld.lss hS rfl rfl) ?_
 refine qM hR ?_
 intro aa hS
 refine hS.splitB (t := 11) rfl ?_ ?_ <;> clear hS
 ·
  intro hg hS
  revert aa
  refine qZ ?_
  refine qZ ?_
  refine qZ ?_
  refine qZ ?_
  refine qZ ?_
  refine qZ ?_
  refine qZ ?_
  refine qA hR rfl (fun _ hS => Yld.pickT hS rfl rfl) ?_
  intro aa hS
  refine wpList_nil ?_
  refine hK599 _ _ ?_
  refine condT hS rfl ?_
  refine wp_seq_k ?_; intro K600 hK600
  refine wp_region_lit ?_
  revert aa
  refine qN hR ?_
  intro aa hS
  refine wpList_nil ?_
  refine hK600 _ _ ?_
  refine wp_ret ?_
  repeat first | with_reducible refine thenR ?_ | with_reducible refine blockR ?_ | with_reducible refine scopeR ?_
  refine ret1 (fn := Try.f44) (e := .ret) (.inl rfl) Try.results44 hS hR ⟨_, (.tmp rfl), ?_⟩
  refine ⟨?_, (hR.sub exQ)⟩
  unfold clsE
  first | rw [if_pos (by omega)] | (rw [if_neg (by omega), if_pos hsm]) | (rw [if_neg (by omega), if_neg hsm])
 ·
  intro hg hS
  revert aa
  refine qMg hR ?_
  refine qMg hR ?_
  refine qAg hR rfl rfl rfl (fun _ hS => Yld.nilCheck hS rfl) ?_
  refine qAg hR rfl rfl rfl (fun _ hS => Yld.fieldAddr hS rfl 4 Try.underlying77 rfl rfl info31 (by decide)) ?_
  refine qAg hR rfl rfl rfl (fun _ hS => Yld.fieldAddr hS rfl 0 Try.underlying31 rfl rfl info3 (by decide)) ?_
  refine qAg hR rfl rfl rfl (fun _ hS => Yld.load1 hS rfl Try.underlying3 rfl rdQ) ?_
  refine qAg hR rfl rfl rfl (fun _ hS => Yld.geq hS rfl rfl) ?_
  refine qA hR rfl (fun _ hS => Yld.pickF hS rfl rfl) ?_
  intro aa hS
  refine wpList_nil ?_
  refine hK599 _ _ ?_
  refine hS.splitB (t := 19) rfl ?_ ?_ <;> clear hS
  ·
   intro hg hS
   refine condT hS rfl ?_
   refine wp_seq_k ?_; intro K601 hK601
   refine wp_region_lit ?_
   revert aa
   refine qN hR ?_
   intro aa hS
   refine wpList_nil ?_
   refine hK601 _ _ ?_
   refine wp_ret ?_
   repeat first | with_reducible refine thenR ?_ | with_reducible refine blockR ?_ | with_reducible refine scopeR ?_
   refine ret1 (fn := Try.f44) (e := .ret) (.inl rfl) Try.results44 hS hR ⟨_, (.tmp rfl), ?_⟩
   refine ⟨?_, (hR.sub exQ)⟩
   unfold clsE
   first | rw [if_pos (by omega)] | (rw [if_neg (by omega), if_pos hsm]) | (rw [if_neg (by omega), if_neg hsm])
  ·
   intro hg hS
   refine condF hS rfl ?_
   refine wp_skip ?_
   refine hK598 _ _ ?_
   refine wp_seq_k ?_; intro K602 hK602
   refine wp_seq_k ?_; intro K603 hK603
   refine wp_region_lit ?_
   revert aa
   refine qM hR ?_
   refine qA hR rfl (fun _ hS => Yld.nilCheck hS rfl) ?_
   refine qA hR rfl (fun _ hS => Yld.fieldAddr hS rfl 0 Try.underlying77 rfl rfl info75 (by decide)) ?_
   refine qA hR rfl (fun _ hS => Yld.fieldAddr hS rfl 0 Try.underlying75 rfl rfl info70 (by decide)) ?_
   refine qA hR rfl (fun _ hS => Yld.load1 hS rfl Try.underlying70 rfl rdQ) ?_
   refine qM hR ?_
   intro aa hS
   refine sB (Bcall hS rfl Try.call64 (At_okA (s := x) (hR.pk (r := arena _ _ ba _) pkQ)) (by decide) ?_); clear hS; intro aa ww vv hS hp
   clear hR
   obtain ⟨rfl, hR⟩ := hp
   unfold atV at hS
   rw [hat] at hS
   revert aa
   refine qM hR ?_
   refine qX hR ?_
   refine qX hR ?_
   intro aa hS
   refine hS.splitB (t := 29) rfl ?_ ?_ <;> clear hS
   ·
    intro hg hS
    have hsm : (ofO T.O x).isSome = true := hg
    refine sB (Balloc hS hR info116 (by rfl) (by rfl) (by decide) ?_); clear hS hR; intro aa ww bb5 hS hR
    refine sB (Bstore hS hR rfl rfl (by rfl) info116 (by rfl) pkQ (by rfl) (Nat.le_of_ble_eq_true rfl) ?_); clear hR; intro ww hR
    revert aa
    refine qN hR ?_
    intro aa hS
    refine wpList_nil ?_
    refine hK603 _ _ ?_
    refine wp_seq_k ?_; intro K604 hK604
    refine wp_region_lit ?_
    revert aa
    refine qM hR ?_
    refine qA hR rfl (fun _ hS => Yld.not hS rfl) ?_
    intro aa hS
    refine wpList_nil ?_
    refine hK604 _ _ ?_
    refine condF hS rfl ?_
    refine wp_skip ?_
    refine hK602 _ _ ?_
    refine wp_seq_k ?_; intro K605 hK605
    refine wp_region_lit ?_
    revert aa
    refine qN hR ?_
    intro aa hS
    refine wpList_nil ?_
    refine hK605 _ _ ?_
    refine wp_ret ?_
    repeat first | with_reducible refine thenR ?_ | with_reducible refine blockR ?_ | with_reducible refine scopeR ?_
    refine ret1 (fn := Try.f44) (e := .ret) (.inl rfl) Try.results44 hS hR ⟨_, (.tmp rfl), ?_⟩
    refine ⟨?_, (hR.sub exQ)⟩
    unfold clsE
    first | rw [if_pos (by omega)] | (rw [if_neg (by omega), if_pos hsm]) | (rw [if_neg (by omega), if_neg hsm])
   ·
    intro hg hS
    have hsm : ¬ (ofO T.O x).isSome = true := by simpa using hg
    refine sB (Balloc hS hR info116 (by rfl) (by rfl) (by decide) ?_); clear hS hR; intro aa ww bb5 hS hR
    refine sB (Bstore hS hR rfl rfl (by rfl) info116 (by rfl) pkQ (by rfl) (Nat.le_of_ble_eq_true rfl) ?_); clear hR; intro ww hR
    revert aa
    refine qN hR ?_
    intro aa hS
    refine wpList_nil ?_
    refine hK603 _ _ ?_
    refine wp_seq_k ?_; intro K606 hK606
    refine wp_region_lit ?_
    revert aa
    refine qM hR ?_
    refine qA hR rfl (fun _ hS => Yld.not hS rfl) ?_
    intro aa hS
    refine wpList_nil ?_
    refine hK606 _ _ ?_
    refine condT hS rfl ?_
    refine wp_seq_k ?_; intro K607 hK607
    refine wp_region_lit ?_
    revert aa
    refine qN hR ?_
    intro aa hS
    refine wpList_nil ?_
    refine hK607 _ _ ?_
    refine wp_ret ?_
    repeat first | with_reducible refine thenR ?_ | with_reducible refine blockR ?_ | with_reducible refine scopeR ?_
    refine ret1 (fn := Try.f44) (e := .ret) (.inl rfl) Try.results44 hS hR ⟨_, (.tmp rfl), ?_⟩
    refine ⟨?_, (hR.sub exQ)⟩
    unfold clsE
    first | rw [if_pos (by omega)] | (rw [if_neg (by omega), if_pos hsm]) | (rw [if_neg (by omega), if_neg hsm])
end Go.Proofs.Ytkhdejjompbklaa.Sx
