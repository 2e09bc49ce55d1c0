/-
 
-/
import Derived.Test.YtkhdejjompbklaaGreatOSoC
import Derived.Test.YtkhdejjompbklaaGreatOLrC
import Derived.Test.YtkhdejjompbklaaGreatOPz
namespace Go.Proofs.YtkhdejjompbklaaGreat.Sx
open Go
set_option maxRecDepth 20000
set_option linter.unusedVariables false
set_option linter.unusedSimpArgs false
theorem info33 : Tryz.prog.info? 33 = some Tryz.t33 := by kernel_rfl
theorem info53 : Tryz.prog.info? 53 = some Tryz.t53 := by kernel_rfl
theorem info54 : Tryz.prog.info? 54 = some Tryz.t54 := by kernel_rfl
theorem info55 : Tryz.prog.info? 55 = some Tryz.t55 := by kernel_rfl
theorem info57 : Tryz.prog.info? 57 = some Tryz.t57 := by kernel_rfl
abbrev dd : DKT := { D := 59, B := 67, U := 125, s := ss }
theorem adnone_ok {now t p u : Int} {S lim b ba bs bo c : Nat} {r : Option Addr} {l : List HP} {w : World} (hR : Sep (blk b [.pointer (some ⟨ba, 0, none⟩), .pointer (some ⟨bs, 0, none⟩), .pointer (some ⟨bo, 0, none⟩), .slice r S c, .int .i64 (S : Int), .int .i64 (lim : Int), .int .i64 t, .int .i64 p, .int .i64 u, .int .i64 now] 59 :: l) w) : CallR Tryz.prog 36 [.pointer (some ⟨b, 0, none⟩)] w (fun v w' => v = .bool false ∧ Sep (blk b [.pointer (some ⟨ba, 0, none⟩), .pointer (some ⟨bs, 0, none⟩), .pointer (some ⟨bo, 0, none⟩), .slice r S c, .int .i64 (S : Int), .int .i64 (lim : Int), .int .i64 t, .int .i64 p, .int .i64 u, .int .i64 now] 59 :: l) w') := by
 refine enter Tryz.func36 rfl Tryz.ntmps36 (Nat.le_of_ble_eq_true rfl) ?_; intro aa hS
 refine wp_seq_k ?_; intro K619 hK619
 refine wp_region_lit ?_
 revert aa
 refine qN hR ?_
 intro aa hS
 refine wpList_nil ?_
 refine hK619 _ _ ?_
 refine wp_seq_k ?_; intro K620 hK620
 refine wp_region_lit ?_
 revert aa
 refine qM hR ?_
 refine qA hR rfl (fun _ hS => Yld.eqlNil hS rfl rfl Tryz.underlying29) ?_
 refine qB (t := 4) false rfl (by rfl) ?_
 refine qM hR ?_
 refine qMg hR ?_
 refine qAg hR rfl rfl rfl (fun _ hS => Yld.nilCheck hS rfl) ?_
 refine qAg hR rfl rfl rfl (fun _ hS => Yld.fieldAddr hS rfl 0 Tryz.underlying59 rfl rfl info57 (by decide)) ?_
 refine qAg hR rfl rfl rfl (fun _ hS => Yld.fieldAddr hS rfl 0 Tryz.underlying57 rfl rfl info52 (by decide)) ?_
 refine qAg hR rfl rfl rfl (fun _ hS => Yld.load1 hS rfl Tryz.underlying52 rfl rdQ) ?_
 refine qAg hR rfl rfl rfl (fun _ hS => Yld.eqlNil hS rfl rfl Tryz.underlying52) ?_
 refine qB (t := 11) false rfl (by rfl) ?_
 refine qA hR rfl (fun _ hS => Yld.pickF hS rfl rfl) ?_
 refine qN hR ?_
 intro aa hS
 refine wpList_nil ?_
 refine hK620 _ _ ?_
 refine wp_ret ?_
 repeat first | with_reducible refine thenR ?_ | with_reducible refine blockR ?_ | with_reducible refine scopeR ?_
 refine ret1 (fn := Tryz.f36) (e := .ret) (.inl rfl) Tryz.results36 hS hR ⟨_, (.tmp rfl), ?_⟩
 exact ⟨rfl, (hR.sub exQ)⟩
theorem adbucket_ok {T : So} {now t p u : Int} {B : List (Int × Int)} {S lim b ba bs bo c : Nat} {r : Option Addr} {l : List HP} {w : World} {a : Int} (ha : 0 ≤ a ∧ a ≤ 4294967295) {n : Int} (hrr : RR t p u) (hn : 0 ≤ n ∧ n ≤ 1099511627776) (hbl : B.length = S) (hb : ∀ q, rcR T.R a = some q → ∃ c, q < S ∧ B[q]? = some c ∧ RT t p u c.1 c.2 n) (hR : Sep (blk b [.pointer (some ⟨ba, 0, none⟩), .pointer (some ⟨bs, 0, none⟩), .pointer (some ⟨bo, 0, none⟩), .slice r S c, .int .i64 (S : Int), .int .i64 (lim : Int), .int .i64 t, .int .i64 p, .int .i64 u, .int .i64 now] 59 :: sourceA ss bs S lim T :: sls r S c 67 2 (B.flatMap e2) :: l) w) : CallR Tryz.prog 49 [.pointer (some ⟨b, 0, none⟩), .int .u32 a, .int .i64 n] w (fun v w' => v = .agg [.int .i64 (bkD t p u T B a n), .int .i64 n].toArray ∧ Sep (blk b [.pointer (some ⟨ba, 0, none⟩), .pointer (some ⟨bs, 0, none⟩), .pointer (some ⟨bo, 0, none⟩), .slice r S c, .int .i64 (S : Int), .int .i64 (lim : Int), .int .i64 t, .int .i64 p, .int .i64 u, .int .i64 now] 59 :: sourceA ss bs S lim T :: sls r S c 67 2 (B.flatMap e2) :: l) w') := by
 refine enter Tryz.func49 rfl Tryz.ntmps49 (Nat.le_of_ble_eq_true rfl) ?_; intro aa hS
 refine wp_seq_k ?_; intro K621 hK621
 refine wp_region_lit ?_
 refine sB (Balloc hS hR info67 (by rfl) (by rfl) (by decide) ?_); clear hS hR; intro aa ww bb6 hS hR
 refine wpList_nil ?_
 refine hK621 _ _ ?_
 refine wp_seq_k ?_; intro K622 hK622
 refine wp_region_lit ?_
 revert aa
 refine qM hR ?_
 refine qA hR rfl (fun _ hS => Yld.nilCheck hS rfl) ?_
 refine qA hR rfl (fun _ hS => Yld.fieldAddr hS rfl 0 Tryz.underlying59 rfl rfl info57 (by decide)) ?_
 refine qA hR rfl (fun _ hS => Yld.fieldAddr hS rfl 1 Tryz.underlying57 rfl rfl info53 (by decide)) ?_
 refine qA hR rfl (fun _ hS => Yld.load1 hS rfl Tryz.underlying53 rfl rdQ) ?_
 refine qM hR ?_
 intro aa hS
 refine sB (Bcall hS rfl Tryz.call58 (soRecord_ok ha (hR.pk (r := sourceA _ bs _ _ _) pkQ)) (by decide) ?_); clear hS; intro aa ww vv hS hp
 clear hR
 obtain ⟨rfl, hR⟩ := hp
 obtain ⟨o, ho⟩ : ∃ y, rcR T.R a = y := ⟨_, rfl⟩
 rw [ho] at hS
 revert aa
 refine qM hR ?_
 refine qX hR ?_
 refine qX hR ?_
 intro aa hS
 refine hS.splitB (t := 22) rfl ?_ ?_ <;> clear hS
 ·
  intro hg hS
  obtain ⟨q, rfl⟩ := Option.isSome_iff_exists.1 hg
  obtain ⟨⟨cl, ca⟩, hqS, hqb, hT⟩ := hb q ho
  obtain ⟨hql, hqe⟩ := List.getElem?_eq_some_iff.1 hqb
  revert aa
  refine qN hR ?_
  refine qN hR ?_
  intro aa hS
  refine wpList_nil ?_
  refine hK622 _ _ ?_
  refine wp_seq_k ?_; intro K623 hK623
  refine wp_seq_k ?_; intro K624 hK624
  refine wp_region_lit ?_
  revert aa
  refine qM hR ?_
  refine qA hR rfl (fun _ hS => Yld.not hS rfl) ?_
  intro aa hS
  refine wpList_nil ?_
  refine hK624 _ _ ?_
  refine condF hS rfl ?_
  refine wp_skip ?_
  refine hK623 _ _ ?_
  refine wp_seq_k ?_; intro K625 hK625
  refine drawn krQ hR Ex.refl ?_; clear hR; intro ww hR hR0
  revert aa
  refine eA 0 rfl krQ (fun _ _ _ h => h) hR0 rfl (fun _ hS => Yld.move hS rfl) ?_
  refine eA 1 rfl krQ (fun _ _ _ h => h) hR0 rfl (fun _ hS => Yld.nilCheck hS rfl) ?_
  refine eA 2 rfl krQ (fun _ _ _ h => h) hR0 rfl (fun _ hS => Yld.fieldAddr hS rfl 4 Tryz.underlying59 rfl rfl info33 (by decide)) ?_
  refine eA 3 rfl krQ (fun _ _ _ h => h) hR0 rfl (fun _ hS => Yld.fieldAddr hS rfl 2 Tryz.underlying33 rfl rfl info31 (by decide)) ?_
  intro aa hS
  refine dA 4 rfl krQ krQ krQ (fun _ _ _ h => h) hS hR0 (Yld.loadAgg hS rfl Tryz.underlying31 rfl info31 rdsQ3 (by rfl)) (by decide) ?_; clear hS; intro aa hS
  revert aa
  refine eA 5 rfl krQ (fun _ _ _ h => h) hR0 rfl (fun _ hS => Yld.move hS rfl) ?_
  refine eA 6 rfl krQ (fun _ _ _ h => h) hR0 rfl (fun _ hS => Yld.nilCheck hS rfl) ?_
  refine eA 7 rfl krQ (fun _ _ _ h => h) hR0 rfl (fun _ hS => Yld.fieldAddr hS rfl 0 Tryz.underlying59 rfl rfl info57 (by decide)) ?_
  refine eA 8 rfl krQ (fun _ _ _ h => h) hR0 rfl (fun _ hS => Yld.fieldAddr hS rfl 3 Tryz.underlying57 rfl rfl info55 (by decide)) ?_
  refine eA 9 rfl krQ (fun _ _ _ h => h) hR0 rfl (fun _ hS => Yld.load1 hS rfl Tryz.underlying55 rfl rdQ) ?_
  refine eA 10 rfl krQ (fun _ _ _ h => h) hR0 rfl (fun _ hS => Yld.move hS rfl) ?_
  refine eA 11 rfl krQ (fun _ _ _ h => h) hR0 rfl (fun _ hS => ilQ 2 (q) Tryz.underlying55 info67) ?_
  refine eA 12 rfl krQ (fun _ _ _ h => h) hR0 rfl (fun _ hS => Yld.loadAgg (vs := [.int .i64 cl, .int .i64 ca]) hS rfl Tryz.underlying67 rfl info67 (Rds.pairs pkQ hqb) (by rfl)) ?_
  refine eA 13 rfl krQ (fun _ _ _ h => h) hR0 rfl (fun _ hS => Yld.move hS rfl) ?_
  intro aa hS
  refine dTwo (i := 14) (j := 18) krQ ?_ ?_
  ·
   refine dop rfl (Bcall hS rfl Tryz.call92 (bkFill_ok hR) (by decide) ?_); clear hS; intro aa ww vv hS hp
   clear hR hR0
   obtain ⟨rfl, hR⟩ := hp
   rw [fillF_pos hT] at hS; dsimp only at hS
   refine dnext (hR.sub exQ) ?_; intro hR0
   revert aa
   refine eA 15 rfl krQ (fun _ _ _ h => h) hR0 rfl (fun _ hS => Yld.move hS rfl) ?_
   refine eA 16 rfl krQ (fun _ _ _ h => h) hR0 rfl (fun _ hS => Yld.extract hS rfl rfl) ?_
   refine eA 17 rfl krQ (fun _ _ _ h => h) hR0 rfl (fun _ hS => Yld.extract hS rfl rfl) ?_
   intro aa hS
   refine dOne (i := 18) krQ ?_
   refine dop rfl (Balloc hS hR info67 (by rfl) (by rfl) (by decide) ?_); clear hS hR hR0; intro aa ww bb11 hS hR
   refine dnext (hR.sub exQ) ?_; intro hR0
   refine dOne (i := 19) krQ ?_
   refine dop rfl (Bstore hS hR rfl rfl (by rfl) info67 (by rfl) pkQ (by rfl) (Nat.le_of_ble_eq_true rfl) ?_); clear hR hR0; intro ww hR
   refine dnext (hR.sub exQ) ?_; intro hR0
   revert aa
   refine eA 20 rfl krQ (fun _ _ _ h => h) hR0 rfl (fun _ hS => Yld.assign hS rfl) ?_
   intro aa hS
   refine wpAnyH_done krQ ?_ _; clear hR0
   refine hK625 _ _ ?_
   refine wp_seq_k ?_; intro K626 hK626
   refine wp_region_lit ?_
   refine sA hS hR (Yld.loadAgg hS rfl Tryz.underlying67 rfl info67 rdsQ2 (by rfl)) (by decide) ?_; clear hS; intro aa hS
   refine sB (Bstore hS hR rfl rfl (by rfl) info67 (by rfl) pkQ (by rfl) (Nat.le_of_ble_eq_true rfl) ?_); clear hR; intro ww hR
   refine wpList_nil ?_
   refine hK626 _ _ ?_
   refine wp_ret ?_
   repeat first | with_reducible refine thenR ?_ | with_reducible refine blockR ?_ | with_reducible refine scopeR ?_
   refine ret1 (fn := Tryz.f49) (e := .ret) (.inl rfl) Tryz.results49 hS hR ⟨_, (.agg rfl Tryz.underlying67 rfl info67 (Rds.cons (Rd.blk pkQ (by rfl)) (Rds.cons (Rd.blk pkQ (by rfl)) (Rds.nil))) (by rfl)), ?_⟩
   rw [bk_some ho hqb]
   exact ⟨rfl, (hR.sub exQ)⟩
  ·
   refine dop rfl (Balloc hS hR info67 (by rfl) (by rfl) (by decide) ?_); clear hS hR hR0; intro aa ww bb11 hS hR
   refine dnext (hR.sub exQ) ?_; intro hR0
   refine dOne (i := 14) krQ ?_
   refine dop rfl (Bcall hS rfl Tryz.call92 (bkFill_ok hR) (by decide) ?_); clear hS; intro aa ww vv hS hp
   clear hR hR0
   obtain ⟨rfl, hR⟩ := hp
   rw [fillF_pos hT] at hS; dsimp only at hS
   refine dnext (hR.sub exQ) ?_; intro hR0
   revert aa
   refine eA 15 rfl krQ (fun _ _ _ h => h) hR0 rfl (fun _ hS => Yld.move hS rfl) ?_
   refine eA 16 rfl krQ (fun _ _ _ h => h) hR0 rfl (fun _ hS => Yld.extract hS rfl rfl) ?_
   refine eA 17 rfl krQ (fun _ _ _ h => h) hR0 rfl (fun _ hS => Yld.extract hS rfl rfl) ?_
   intro aa hS
   refine dOne (i := 19) krQ ?_
   refine dop rfl (Bstore hS hR rfl rfl (by rfl) info67 (by rfl) pkQ (by rfl) (Nat.le_of_ble_eq_true rfl) ?_); clear hR hR0; intro ww hR
   refine dnext (hR.sub exQ) ?_; intro hR0
   revert aa
   refine eA 20 rfl krQ (fun _ _ _ h => h) hR0 rfl (fun _ hS => Yld.assign hS rfl) ?_
   intro aa hS
   refine wpAnyH_done krQ ?_ _; clear hR0
   refine hK625 _ _ ?_
   refine wp_seq_k ?_; intro K627 hK627
   refine wp_region_lit ?_
   refine sA hS hR (Yld.loadAgg hS rfl Tryz.underlying67 rfl info67 rdsQ2 (by rfl)) (by decide) ?_; clear hS; intro aa hS
   refine sB (Bstore hS hR rfl rfl (by rfl) info67 (by rfl) pkQ (by rfl) (Nat.le_of_ble_eq_true rfl) ?_); clear hR; intro ww hR
   refine wpList_nil ?_
   refine hK627 _ _ ?_
   refine wp_ret ?_
   repeat first | with_reducible refine thenR ?_ | with_reducible refine blockR ?_ | with_reducible refine scopeR ?_
   refine ret1 (fn := Tryz.f49) (e := .ret) (.inl rfl) Tryz.results49 hS hR ⟨_, (.agg rfl Tryz.underlying67 rfl info67 (Rds.cons (Rd.blk pkQ (by rfl)) (Rds.cons (Rd.blk pkQ (by rfl)) (Rds.nil))) (by rfl)), ?_⟩
   rw [bk_some ho hqb]
   exact ⟨rfl, (hR.sub exQ)⟩
 ·
  intro hg hS
  obtain rfl : o = none := by cases o with
   | none => rfl
   | some q => simp at hg
  revert aa
  refine qN hR ?_
  refine qN hR ?_
  intro aa hS
  refine wpList_nil ?_
  refine hK622 _ _ ?_
  refine wp_seq_k ?_; intro K628 hK628
  refine wp_seq_k ?_; intro K629 hK629
  refine wp_region_lit ?_
  revert aa
  refine qM hR ?_
  refine qA hR rfl (fun _ hS => Yld.not hS rfl) ?_
  intro aa hS
  refine wpList_nil ?_
  refine hK629 _ _ ?_
  refine condT hS rfl ?_
  refine wp_seq_k ?_; intro K630 hK630
  refine wp_region_lit ?_
  revert aa
  refine qM hR ?_
  refine qA hR rfl (fun _ hS => Yld.nilCheck hS rfl) ?_
  refine qA hR rfl (fun _ hS => Yld.fieldAddr hS rfl 4 Tryz.underlying59 rfl rfl info33 (by decide)) ?_
  refine qA hR rfl (fun _ hS => Yld.fieldAddr hS rfl 2 Tryz.underlying33 rfl rfl info31 (by decide)) ?_
  intro aa hS
  refine sA hS hR (Yld.loadAgg hS rfl Tryz.underlying31 rfl info31 rdsQ3 (by rfl)) (by decide) ?_; clear hS; intro aa hS
  revert aa
  refine qM hR ?_
  intro aa hS
  refine sB (Bcall hS rfl Tryz.call59 (bkFull_ok hR) (by decide) ?_); clear hS; intro aa ww vv hS hp
  clear hR
  obtain ⟨rfl, hR⟩ := hp
  rw [fullF_pos hrr hn] at hS; dsimp only at hS
  revert aa
  refine qM hR ?_
  refine qX hR ?_
  refine qX hR ?_
  intro aa hS
  refine sB (Balloc hS hR info67 (by rfl) (by rfl) (by decide) ?_); clear hS hR; intro aa ww bb9 hS hR
  refine sB (Bstore hS hR rfl rfl (by rfl) info67 (by rfl) pkQ (by rfl) (Nat.le_of_ble_eq_true rfl) ?_); clear hR; intro ww hR
  revert aa
  refine qN hR ?_
  intro aa hS
  refine wpList_nil ?_
  refine hK630 _ _ ?_
  refine wp_seq_k ?_; intro K631 hK631
  refine wp_region_lit ?_
  refine sA hS hR (Yld.loadAgg hS rfl Tryz.underlying67 rfl info67 rdsQ2 (by rfl)) (by decide) ?_; clear hS; intro aa hS
  refine sB (Bstore hS hR rfl rfl (by rfl) info67 (by rfl) pkQ (by rfl) (Nat.le_of_ble_eq_true rfl) ?_); clear hR; intro ww hR
  refine wpList_nil ?_
  refine hK631 _ _ ?_
  refine wp_ret ?_
  repeat first | with_reducible refine thenR ?_ | with_reducible refine blockR ?_ | with_reducible refine scopeR ?_
  refine ret1 (fn := Tryz.f49) (e := .ret) (.inl rfl) Tryz.results49 hS hR ⟨_, (.agg rfl Tryz.underlying67 rfl info67 (Rds.cons (Rd.blk pkQ (by rfl)) (Rds.cons (Rd.blk pkQ (by rfl)) (Rds.nil))) (by rfl)), ?_⟩
  rw [bk_none ho]
  exact ⟨rfl, (hR.sub exQ)⟩
theorem adtry1_ok {T : So} {now t p u : Int} {S lim b ba bs bo c : Nat} {r : Option Addr} {l : List HP} {w : World} {a : Int} (ha : 0 ≤ a ∧ a ≤ 4294967295) {x3 x5 : Nat} (hR : Sep (blk x3 [.pointer (some ⟨b, 0, none⟩)] 29 :: blk x5 [.int .u32 a] 25 :: blk b [.pointer (some ⟨ba, 0, none⟩), .pointer (some ⟨bs, 0, none⟩), .pointer (some ⟨bo, 0, none⟩), .slice r S c, .int .i64 (S : Int), .int .i64 (lim : Int), .int .i64 t, .int .i64 p, .int .i64 u, .int .i64 now] 59 :: sourceA ss bs S lim T :: l) w) : CallR Tryz.prog 50 [.pointer (some ⟨x3, 0, none⟩), .pointer (some ⟨x5, 0, none⟩)] w (fun v w' => v = .bool (decide ((lim : Int) - ((slO T.O a).length : Int) = 0)) ∧ Sep (blk x3 [.pointer (some ⟨b, 0, none⟩)] 29 :: blk x5 [.int .u32 a] 25 :: blk b [.pointer (some ⟨ba, 0, none⟩), .pointer (some ⟨bs, 0, none⟩), .pointer (some ⟨bo, 0, none⟩), .slice r S c, .int .i64 (S : Int), .int .i64 (lim : Int), .int .i64 t, .int .i64 p, .int .i64 u, .int .i64 now] 59 :: sourceA ss bs S lim T :: l) w') := by
 refine enter Tryz.func50 rfl Tryz.ntmps50 (Nat.le_of_ble_eq_true rfl) ?_; intro aa hS
 refine wp_seq_k ?_; intro K632 hK632
 refine wp_region_lit ?_
 revert aa
 refine qN hR ?_
 intro aa hS
 refine wpList_nil ?_
 refine hK632 _ _ ?_
 refine wp_seq_k ?_; intro K633 hK633
 refine drawn krQ hR Ex.refl ?_; clear hR; intro ww hR hR0
 revert aa
 refine eA 0 rfl krQ (fun _ _ _ h => h) hR0 rfl (fun _ hS => Yld.load1 hS rfl Tryz.underlying29 rfl rdQ) ?_
 refine eA 1 rfl krQ (fun _ _ _ h => h) hR0 rfl (fun _ hS => Yld.nilCheck hS rfl) ?_
 refine eA 2 rfl krQ (fun _ _ _ h => h) hR0 rfl (fun _ hS => Yld.fieldAddr hS rfl 0 Tryz.underlying59 rfl rfl info57 (by decide)) ?_
 refine eA 3 rfl krQ (fun _ _ _ h => h) hR0 rfl (fun _ hS => Yld.fieldAddr hS rfl 1 Tryz.underlying57 rfl rfl info53 (by decide)) ?_
 refine eA 4 rfl krQ (fun _ _ _ h => h) hR0 rfl (fun _ hS => Yld.load1 hS rfl Tryz.underlying53 rfl rdQ) ?_
 refine eA 5 rfl krQ (fun _ _ _ h => h) hR0 rfl (fun _ hS => Yld.load1 hS rfl Tryz.underlying25 rfl rdQ) ?_
 intro aa hS
 refine dOne (i := 6) krQ ?_
 refine dop rfl (Bcall hS rfl Tryz.call51 (soRoom_ok ha (hR.pk (r := sourceA _ bs _ _ _) pkQ)) (by decide) ?_); clear hS; intro aa ww vv hS hp
 clear hR hR0
 obtain ⟨rfl, hR⟩ := hp
 refine dnext (hR.sub exQ) ?_; intro hR0
 revert aa
 refine eA 7 rfl krQ (fun _ _ _ h => h) hR0 rfl (fun _ hS => Yld.eql hS rfl rfl) ?_
 refine eA 8 rfl krQ (fun _ _ _ h => h) hR0 rfl (fun _ hS => Yld.assign hS rfl) ?_
 intro aa hS
 refine wpAnyH_done krQ ?_ _; clear hR0
 refine hK633 _ _ ?_
 refine wp_ret ?_
 repeat first | with_reducible refine thenR ?_ | with_reducible refine blockR ?_ | with_reducible refine scopeR ?_
 refine ret1 (fn := Tryz.f50) (e := .ret) (.inl rfl) Tryz.results50 hS hR ⟨_, (.tmp rfl), ?_⟩
 exact ⟨rfl, (hR.sub exQ)⟩
theorem adtry2_ok {l : List HP} {w : World} {e : Int} {x10 : Nat} (hR : Sep (blk x10 [.int .i64 e] 61 :: l) w) : CallR Tryz.prog 52 [.pointer (some ⟨x10, 0, none⟩)] w (fun v w' => v = .bool (decide (¬ e = 0)) ∧ Sep (blk x10 [.int .i64 e] 61 :: l) w') := by
 refine enter Tryz.func52 rfl Tryz.ntmps52 (Nat.le_of_ble_eq_true rfl) ?_; intro aa hS
 refine wp_seq_k ?_; intro K634 hK634
 refine wp_region_lit ?_
 revert aa
 refine qN hR ?_
 intro aa hS
 refine wpList_nil ?_
 refine hK634 _ _ ?_
 refine wp_seq_k ?_; intro K635 hK635
 refine wp_region_lit ?_
 revert aa
 refine qA hR rfl (fun _ hS => Yld.load1 hS rfl Tryz.underlying61 rfl rdQ) ?_
 refine qA hR rfl (fun _ hS => Yld.neq hS rfl rfl) ?_
 refine qN hR ?_
 intro aa hS
 refine wpList_nil ?_
 refine hK635 _ _ ?_
 refine wp_ret ?_
 repeat first | with_reducible refine thenR ?_ | with_reducible refine blockR ?_ | with_reducible refine scopeR ?_
 refine ret1 (fn := Tryz.f52) (e := .ret) (.inl rfl) Tryz.results52 hS hR ⟨_, (.tmp rfl), ?_⟩
 exact ⟨rfl, (hR.sub exQ)⟩
theorem adtry3_no {ord : List Nat} {tm : Nat → Int} {un now t p u : Int} {S lim b ba bs bo c : Nat} {r : Option Addr} {l : List HP} {w : World} {x3 x8 : Nat} (hR : Sep (blk x8 [.bool false] 4 :: blk x3 [.pointer (some ⟨b, 0, none⟩)] 29 :: blk b [.pointer (some ⟨ba, 0, none⟩), .pointer (some ⟨bs, 0, none⟩), .pointer (some ⟨bo, 0, none⟩), .slice r S c, .int .i64 (S : Int), .int .i64 (lim : Int), .int .i64 t, .int .i64 p, .int .i64 u, .int .i64 now] 59 :: lruA 125 183 180 3 bo S ord tm un :: l) w) : CallR Tryz.prog 53 [.pointer (some ⟨x8, 0, none⟩), .pointer (some ⟨x3, 0, none⟩)] w (fun v w' => v = .bool false ∧ Sep (blk x8 [.bool false] 4 :: blk x3 [.pointer (some ⟨b, 0, none⟩)] 29 :: blk b [.pointer (some ⟨ba, 0, none⟩), .pointer (some ⟨bs, 0, none⟩), .pointer (some ⟨bo, 0, none⟩), .slice r S c, .int .i64 (S : Int), .int .i64 (lim : Int), .int .i64 t, .int .i64 p, .int .i64 u, .int .i64 now] 59 :: lruA 125 183 180 3 bo S ord tm un :: l) w') := by
 refine enter Tryz.func53 rfl Tryz.ntmps53 (Nat.le_of_ble_eq_true rfl) ?_; intro aa hS
 refine wp_seq_k ?_; intro K636 hK636
 refine wp_region_lit ?_
 revert aa
 refine qN hR ?_
 intro aa hS
 refine wpList_nil ?_
 refine hK636 _ _ ?_
 refine wp_seq_k ?_; intro K637 hK637
 refine wp_region_lit ?_
 revert aa
 refine qA hR rfl (fun _ hS => Yld.load1 hS rfl Tryz.underlying4 rfl rdQ) ?_
 refine qM hR ?_
 refine qB (t := 4) false rfl (by rfl) ?_
 refine qZ ?_
 refine qZ ?_
 refine qZ ?_
 refine qZ ?_
 refine qZ ?_
 refine qZ ?_
 refine qZ ?_
 refine qA hR rfl (fun _ hS => Yld.pickF hS rfl rfl) ?_
 refine qN hR ?_
 intro aa hS
 refine wpList_nil ?_
 refine hK637 _ _ ?_
 refine wp_ret ?_
 repeat first | with_reducible refine thenR ?_ | with_reducible refine blockR ?_ | with_reducible refine scopeR ?_
 refine ret1 (fn := Tryz.f53) (e := .ret) (.inl rfl) Tryz.results53 hS hR ⟨_, (.tmp rfl), ?_⟩
 exact ⟨rfl, (hR.sub exQ)⟩
theorem adtry3_yes {ord : List Nat} {tm : Nat → Int} {un now t p u : Int} {S lim b ba bs bo c : Nat} {r : Option Addr} {l : List HP} {w : World} {x3 x8 : Nat} (hR : Sep (blk x8 [.bool true] 4 :: blk x3 [.pointer (some ⟨b, 0, none⟩)] 29 :: blk b [.pointer (some ⟨ba, 0, none⟩), .pointer (some ⟨bs, 0, none⟩), .pointer (some ⟨bo, 0, none⟩), .slice r S c, .int .i64 (S : Int), .int .i64 (lim : Int), .int .i64 t, .int .i64 p, .int .i64 u, .int .i64 now] 59 :: lruA 125 183 180 3 bo S ord tm un :: l) w) : CallR Tryz.prog 53 [.pointer (some ⟨x8, 0, none⟩), .pointer (some ⟨x3, 0, none⟩)] w (fun v w' => v = .bool (decide ((ord.length : Int) = 0)) ∧ Sep (blk x8 [.bool true] 4 :: blk x3 [.pointer (some ⟨b, 0, none⟩)] 29 :: blk b [.pointer (some ⟨ba, 0, none⟩), .pointer (some ⟨bs, 0, none⟩), .pointer (some ⟨bo, 0, none⟩), .slice r S c, .int .i64 (S : Int), .int .i64 (lim : Int), .int .i64 t, .int .i64 p, .int .i64 u, .int .i64 now] 59 :: lruA 125 183 180 3 bo S ord tm un :: l) w') := by
 refine enter Tryz.func53 rfl Tryz.ntmps53 (Nat.le_of_ble_eq_true rfl) ?_; intro aa hS
 refine wp_seq_k ?_; intro K638 hK638
 refine wp_region_lit ?_
 revert aa
 refine qN hR ?_
 intro aa hS
 refine wpList_nil ?_
 refine hK638 _ _ ?_
 refine wp_seq_k ?_; intro K639 hK639
 refine wp_region_lit ?_
 revert aa
 refine qA hR rfl (fun _ hS => Yld.load1 hS rfl Tryz.underlying4 rfl rdQ) ?_
 refine qM hR ?_
 refine qB (t := 4) true rfl (by rfl) ?_
 refine qAg hR rfl rfl rfl (fun _ hS => Yld.load1 hS rfl Tryz.underlying29 rfl rdQ) ?_
 refine qAg hR rfl rfl rfl (fun _ hS => Yld.nilCheck hS rfl) ?_
 refine qAg hR rfl rfl rfl (fun _ hS => Yld.fieldAddr hS rfl 0 Tryz.underlying59 rfl rfl info57 (by decide)) ?_
 refine qAg hR rfl rfl rfl (fun _ hS => Yld.fieldAddr hS rfl 2 Tryz.underlying57 rfl rfl info54 (by decide)) ?_
 refine qAg hR rfl rfl rfl (fun _ hS => Yld.load1 hS rfl Tryz.underlying54 rfl rdQ) ?_
 intro aa hS
 refine sBg hS rfl rfl (Bcall hS rfl Tryz.call54 (lrLen_ok (hR.pk (r := lruA _ _ _ _ bo _ _ _ _) pkQ)) (by decide) ?_); clear hS; intro aa ww vv hS hp
 clear hR
 obtain ⟨rfl, hR⟩ := hp
 revert aa
 refine qAg hR rfl rfl rfl (fun _ hS => Yld.eql hS rfl rfl) ?_
 refine qA hR rfl (fun _ hS => Yld.pickT hS rfl rfl) ?_
 refine qN hR ?_
 intro aa hS
 refine wpList_nil ?_
 refine hK639 _ _ ?_
 refine wp_ret ?_
 repeat first | with_reducible refine thenR ?_ | with_reducible refine blockR ?_ | with_reducible refine scopeR ?_
 refine ret1 (fn := Tryz.f53) (e := .ret) (.inl rfl) Tryz.results53 hS hR ⟨_, (.tmp rfl), ?_⟩
 exact ⟨rfl, (hR.sub exQ)⟩
theorem adopen_ok {A : Ar} {T : So} {ord : List Nat} {tm : Nat → Int} {un now t p u : Int} {S lim b ba bs bo c : Nat} {r : Option Addr} {l : List HP} {w : World} {a : Int} (ha : 0 ≤ a ∧ a ≤ 4294967295) {s : Nat} {fs : List Nat} (he : A.free = s :: fs) (hs : s < S) (hn : ofO T.O (s : Int) = none) (hl : (slO T.O a).length < lim) (hno : s ∉ ord) (hun : 0 ≤ un ∧ un ≤ 4611686018427387904) (hR : Sep (blk b [.pointer (some ⟨ba, 0, none⟩), .pointer (some ⟨bs, 0, none⟩), .pointer (some ⟨bo, 0, none⟩), .slice r S c, .int .i64 (S : Int), .int .i64 (lim : Int), .int .i64 t, .int .i64 p, .int .i64 u, .int .i64 now] 59 :: arena 148 174 ba A :: sourceA ss bs S lim T :: lruA 125 183 180 3 bo S ord tm un :: l) w) : CallR Tryz.prog 57 [.pointer (some ⟨b, 0, none⟩), .int .u32 a] w (fun v w' => v = .int .i64 (s : Int) ∧ Sep (blk b [.pointer (some ⟨ba, 0, none⟩), .pointer (some ⟨bs, 0, none⟩), .pointer (some ⟨bo, 0, none⟩), .slice r S c, .int .i64 (S : Int), .int .i64 (lim : Int), .int .i64 t, .int .i64 p, .int .i64 u, .int .i64 now] 59 :: arena 148 174 ba A.take :: sourceA ss bs S lim (addO T a s) :: lruA 125 183 180 3 bo S (ord ++ [s]) (upd tm s (un + 1)) (un + 1) :: l) w') := by
 refine enter Tryz.func57 rfl Tryz.ntmps57 (Nat.le_of_ble_eq_true rfl) ?_; intro aa hS
 refine wp_seq_k ?_; intro K640 hK640
 refine wp_region_lit ?_
 revert aa
 refine qN hR ?_
 intro aa hS
 refine wpList_nil ?_
 refine hK640 _ _ ?_
 refine wp_seq_k ?_; intro K641 hK641
 refine wp_region_lit ?_
 revert aa
 refine qM hR ?_
 refine qA hR rfl (fun _ hS => Yld.nilCheck hS rfl) ?_
 refine qA hR rfl (fun _ hS => Yld.fieldAddr hS rfl 0 Tryz.underlying59 rfl rfl info57 (by decide)) ?_
 refine qA hR rfl (fun _ hS => Yld.fieldAddr hS rfl 0 Tryz.underlying57 rfl rfl info52 (by decide)) ?_
 refine qA hR rfl (fun _ hS => Yld.load1 hS rfl Tryz.underlying52 rfl rdQ) ?_
 intro aa hS
 refine sB (Bcall hS rfl Tryz.call97 (Take_okA (hR.pk (r := arena _ _ ba _) pkQ)) (by decide) ?_); clear hS; intro aa ww vv hS hp
 clear hR
 obtain ⟨rfl, hR⟩ := hp
 rw [Ar.top_eq he] at hS
 revert aa
 refine qM hR ?_
 refine qX hR ?_
 refine qX hR ?_
 intro aa hS
 refine sB (Balloc hS hR info120 (by rfl) (by rfl) (by decide) ?_); clear hS hR; intro aa ww bb5 hS hR
 refine sB (Bstore hS hR rfl rfl (by rfl) info120 (by rfl) pkQ (by rfl) (Nat.le_of_ble_eq_true rfl) ?_); clear hR; intro ww hR
 revert aa
 refine qN hR ?_
 intro aa hS
 refine wpList_nil ?_
 refine hK641 _ _ ?_
 refine wp_seq_k ?_; intro K642 hK642
 refine drawn krQ hR (Ex.of_pk (r := sourceA _ bs _ _ _) pkQ) ?_; clear hR; intro ww hR hR0
 revert aa
 refine eA 0 rfl krQ (fun _ _ _ h => h) hR0 rfl (fun _ hS => Yld.move hS rfl) ?_
 refine eA 1 rfl krQ (fun _ _ _ h => h) hR0 rfl (fun _ hS => Yld.nilCheck hS rfl) ?_
 refine eA 2 rfl krQ (fun _ _ _ h => h) hR0 rfl (fun _ hS => Yld.fieldAddr hS rfl 0 Tryz.underlying59 rfl rfl info57 (by decide)) ?_
 refine eA 3 rfl krQ (fun _ _ _ h => h) hR0 rfl (fun _ hS => Yld.fieldAddr hS rfl 1 Tryz.underlying57 rfl rfl info53 (by decide)) ?_
 refine eA 4 rfl krQ (fun _ _ _ h => h) hR0 rfl (fun _ hS => Yld.load1 hS rfl Tryz.underlying53 rfl rdQ) ?_
 refine eA 5 rfl krQ (fun _ _ _ h => h) hR0 rfl (fun _ hS => Yld.move hS rfl) ?_
 refine eA 6 rfl krQ (fun _ _ _ h => h) hR0 rfl (fun _ hS => Yld.fieldAddr hS rfl 0 Tryz.underlying120 rfl rfl info3 (by decide)) ?_
 refine eA 7 rfl krQ (fun _ _ _ h => h) hR0 rfl (fun _ hS => Yld.load1 hS rfl Tryz.underlying3 rfl rdQ) ?_
 intro aa hS
 refine dOne (i := 8) krQ ?_
 refine dop rfl (Bcall hS rfl Tryz.call98 (soOpen_ok ha (hR.pk (r := sourceA _ bs _ _ _) pkQ)) (by decide) ?_); clear hS; intro aa ww vv hS hp
 clear hR hR0
 obtain ⟨rfl, hR⟩ := hp
 rw [(opn_ok hs hn hl).2] at hR
 refine dnext (hR.sub exQ) ?_; intro hR0
 refine wpAnyH_done krQ ?_ _; clear hR0
 refine hK642 _ _ ?_
 refine wp_seq_k ?_; intro K643 hK643
 refine drawn krQ hR (Ex.of_pk (r := lruA _ _ _ _ bo _ _ _ _) pkQ) ?_; clear hR; intro ww hR hR0
 revert aa
 refine eA 0 rfl krQ (fun _ _ _ h => h) hR0 rfl (fun _ hS => Yld.move hS rfl) ?_
 refine eA 1 rfl krQ (fun _ _ _ h => h) hR0 rfl (fun _ hS => Yld.nilCheck hS rfl) ?_
 refine eA 2 rfl krQ (fun _ _ _ h => h) hR0 rfl (fun _ hS => Yld.fieldAddr hS rfl 0 Tryz.underlying59 rfl rfl info57 (by decide)) ?_
 refine eA 3 rfl krQ (fun _ _ _ h => h) hR0 rfl (fun _ hS => Yld.fieldAddr hS rfl 2 Tryz.underlying57 rfl rfl info54 (by decide)) ?_
 refine eA 4 rfl krQ (fun _ _ _ h => h) hR0 rfl (fun _ hS => Yld.load1 hS rfl Tryz.underlying54 rfl rdQ) ?_
 refine eA 5 rfl krQ (fun _ _ _ h => h) hR0 rfl (fun _ hS => Yld.fieldAddr hS rfl 0 Tryz.underlying120 rfl rfl info3 (by decide)) ?_
 refine eA 6 rfl krQ (fun _ _ _ h => h) hR0 rfl (fun _ hS => Yld.load1 hS rfl Tryz.underlying3 rfl rdQ) ?_
 intro aa hS
 refine dOne (i := 7) krQ ?_
 refine dop rfl (Bcall hS rfl Tryz.call61 (lrSee_ok (i := (s : Int)) (hR.pk (r := lruA _ _ _ _ bo _ _ _ _) pkQ) hun) (by decide) ?_); clear hS; intro aa ww vv hS hp
 clear hR hR0
 obtain ⟨rfl, hR⟩ := hp
 rw [(see_new (tm := tm) (un := un) hs hno).1, (see_new (ord := ord) (tm := tm) (un := un) hs hno).2.1, (see_new (ord := ord) (tm := tm) (un := un) hs hno).2.2] at hR
 refine dnext (hR.sub exQ) ?_; intro hR0
 refine wpAnyH_done krQ ?_ _; clear hR0
 refine hK643 _ _ ?_
 refine wp_seq_k ?_; intro K644 hK644
 refine wp_region_lit ?_
 revert aa
 refine qA hR rfl (fun _ hS => Yld.fieldAddr hS rfl 0 Tryz.underlying120 rfl rfl info3 (by decide)) ?_
 refine qA hR rfl (fun _ hS => Yld.load1 hS rfl Tryz.underlying3 rfl rdQ) ?_
 refine qN hR ?_
 intro aa hS
 refine wpList_nil ?_
 refine hK644 _ _ ?_
 refine wp_ret ?_
 repeat first | with_reducible refine thenR ?_ | with_reducible refine blockR ?_ | with_reducible refine scopeR ?_
 refine ret1 (fn := Tryz.f57) (e := .ret) (.inl rfl) Tryz.results57 hS hR ⟨_, (.tmp rfl), ?_⟩
 exact ⟨rfl, (hR.sub exQ)⟩
theorem adclose_ok {A : Ar} {T : So} {ord : List Nat} {tm : Nat → Int} {un now t p u : Int} {S lim b ba bs bo c : Nat} {r : Option Addr} {l : List HP} {w : World} {a : Int} {s : Nat} {v0 : Int} (hs : s < S) (hq : ofO T.O (s : Int) = some a) (hv : A.at (s : Int) = some v0) (hR : Sep (blk b [.pointer (some ⟨ba, 0, none⟩), .pointer (some ⟨bs, 0, none⟩), .pointer (some ⟨bo, 0, none⟩), .slice r S c, .int .i64 (S : Int), .int .i64 (lim : Int), .int .i64 t, .int .i64 p, .int .i64 u, .int .i64 now] 59 :: arena 148 174 ba A :: sourceA ss bs S lim T :: lruA 125 183 180 3 bo S ord tm un :: l) w) : CallR Tryz.prog 56 [.pointer (some ⟨b, 0, none⟩), .int .i64 (s : Int)] w (fun v w' => v = .tuple [].toArray ∧ Sep (blk b [.pointer (some ⟨ba, 0, none⟩), .pointer (some ⟨bs, 0, none⟩), .pointer (some ⟨bo, 0, none⟩), .slice r S c, .int .i64 (S : Int), .int .i64 (lim : Int), .int .i64 t, .int .i64 p, .int .i64 u, .int .i64 now] 59 :: arena 148 174 ba (A.give s) :: sourceA ss bs S lim (remO T a s) :: lruA 125 183 180 3 bo S (ord.erase s) tm un :: l) w') := by
 refine enter Tryz.func56 rfl Tryz.ntmps56 (Nat.le_of_ble_eq_true rfl) ?_; intro aa hS
 refine wp_seq_k ?_; intro K645 hK645
 refine wp_region_lit ?_
 revert aa
 refine qM hR ?_
 refine qA hR rfl (fun _ hS => Yld.nilCheck hS rfl) ?_
 refine qA hR rfl (fun _ hS => Yld.fieldAddr hS rfl 0 Tryz.underlying59 rfl rfl info57 (by decide)) ?_
 refine qA hR rfl (fun _ hS => Yld.fieldAddr hS rfl 1 Tryz.underlying57 rfl rfl info53 (by decide)) ?_
 refine qA hR rfl (fun _ hS => Yld.load1 hS rfl Tryz.underlying53 rfl rdQ) ?_
 refine qM hR ?_
 intro aa hS
 refine sB (Bcall hS rfl Tryz.call95 (soClose_ok (x := (s : Int)) (hR.pk (r := sourceA _ bs _ _ _) pkQ)) (by decide) ?_); clear hS; intro aa ww vv hS hp
 clear hR
 obtain ⟨rfl, hR⟩ := hp
 rw [(cls_ok hs hq).2] at hR
 refine wpList_nil ?_
 refine hK645 _ _ ?_
 refine wp_seq_k ?_; intro K646 hK646
 refine wp_region_lit ?_
 revert aa
 refine qM hR ?_
 refine qA hR rfl (fun _ hS => Yld.nilCheck hS rfl) ?_
 refine qA hR rfl (fun _ hS => Yld.fieldAddr hS rfl 0 Tryz.underlying59 rfl rfl info57 (by decide)) ?_
 refine qA hR rfl (fun _ hS => Yld.fieldAddr hS rfl 2 Tryz.underlying57 rfl rfl info54 (by decide)) ?_
 refine qA hR rfl (fun _ hS => Yld.load1 hS rfl Tryz.underlying54 rfl rdQ) ?_
 refine qM hR ?_
 intro aa hS
 refine sB (Bcall hS rfl Tryz.call60 (lrOut_ok (i := (s : Int)) (hR.pk (r := lruA _ _ _ _ bo _ _ _ _) pkQ)) (by decide) ?_); clear hS; intro aa ww vv hS hp
 clear hR
 obtain ⟨rfl, hR⟩ := hp
 rw [(see_at (ord := ord) (tm := tm) (un := un) hs).2.2.2] at hR
 refine wpList_nil ?_
 refine hK646 _ _ ?_
 refine wp_seq_k ?_; intro K647 hK647
 refine wp_region_lit ?_
 revert aa
 refine qM hR ?_
 refine qA hR rfl (fun _ hS => Yld.nilCheck hS rfl) ?_
 refine qA hR rfl (fun _ hS => Yld.fieldAddr hS rfl 0 Tryz.underlying59 rfl rfl info57 (by decide)) ?_
 refine qA hR rfl (fun _ hS => Yld.fieldAddr hS rfl 0 Tryz.underlying57 rfl rfl info52 (by decide)) ?_
 refine qA hR rfl (fun _ hS => Yld.load1 hS rfl Tryz.underlying52 rfl rdQ) ?_
 refine qM hR ?_
 intro aa hS
 refine sB (Bcall hS rfl Tryz.call74 (At_okA (s := (s : Int)) (hR.pk (r := arena _ _ ba _) pkQ)) (by decide) ?_); clear hS; intro aa ww vv hS hp
 clear hR
 obtain ⟨rfl, hR⟩ := hp
 rw [atV_some hv] at hS
 revert aa
 refine qM hR ?_
 refine qX hR ?_
 refine qX hR ?_
 intro aa hS
 refine sB (Balloc hS hR info120 (by rfl) (by rfl) (by decide) ?_); clear hS hR; intro aa ww bb4 hS hR
 refine sB (Bstore hS hR rfl rfl (by rfl) info120 (by rfl) pkQ (by rfl) (Nat.le_of_ble_eq_true rfl) ?_); clear hR; intro ww hR
 revert aa
 refine qN hR ?_
 intro aa hS
 refine wpList_nil ?_
 refine hK647 _ _ ?_
 refine drawn krQ hR (Ex.of_pk (r := arena _ _ ba _) pkQ) ?_; clear hR; intro ww hR hR0
 revert aa
 refine eA 0 rfl krQ (fun _ _ _ h => h) hR0 rfl (fun _ hS => Yld.move hS rfl) ?_
 refine eA 1 rfl krQ (fun _ _ _ h => h) hR0 rfl (fun _ hS => Yld.nilCheck hS rfl) ?_
 refine eA 2 rfl krQ (fun _ _ _ h => h) hR0 rfl (fun _ hS => Yld.fieldAddr hS rfl 0 Tryz.underlying59 rfl rfl info57 (by decide)) ?_
 refine eA 3 rfl krQ (fun _ _ _ h => h) hR0 rfl (fun _ hS => Yld.fieldAddr hS rfl 0 Tryz.underlying57 rfl rfl info52 (by decide)) ?_
 refine eA 4 rfl krQ (fun _ _ _ h => h) hR0 rfl (fun _ hS => Yld.load1 hS rfl Tryz.underlying52 rfl rdQ) ?_
 intro aa hS
 refine dA 5 rfl krQ krQ krQ (fun _ _ _ h => h) hS hR0 (Yld.loadAgg hS rfl Tryz.underlying120 rfl info120 rdsQ2 (by rfl)) (by decide) ?_; clear hS; intro aa hS
 refine dOne (i := 6) krQ ?_
 refine dop rfl (Bcall hS rfl Tryz.call96 (Give_okA (s := (s : Int)) (u := v0) (hR.pk (r := arena _ _ ba _) pkQ)) (by decide) ?_); clear hS; intro aa ww vv hS hp
 clear hR hR0
 obtain ⟨rfl, hR⟩ := hp
 rw [Ar.giveH_yes hv] at hR
 refine dnext (hR.sub exQ) ?_; intro hR0
 refine wpAnyH_done krQ ?_ _; clear hR0
 repeat (first | with_reducible refine thenX ?_ | with_reducible refine blockX ?_ | with_reducible refine blockY (by rfl) ?_)
 refine retN (fn := Tryz.f56) (e := .normal) (.inr rfl) Tryz.results56 hS hR ⟨_, .nil, rfl, ?_⟩
 exact ⟨rfl, (hR.sub exQ)⟩
theorem aderror_ok {A : Ar} {T : So} {now t p u : Int} {S lim b ba bs bo c : Nat} {r : Option Addr} {l : List HP} {w : World} {x : Int} (hat : (A.at x).isSome = (ofO T.O x).isSome) (hR : Sep (blk b [.pointer (some ⟨ba, 0, none⟩), .pointer (some ⟨bs, 0, none⟩), .pointer (some ⟨bo, 0, none⟩), .slice r S c, .int .i64 (S : Int), .int .i64 (lim : Int), .int .i64 t, .int .i64 p, .int .i64 u, .int .i64 now] 59 :: arena 148 174 ba A :: l) w) : CallR Tryz.prog 38 [.pointer (some ⟨b, 0, none⟩), .int .i64 x] w (fun v w' => v = .int .i64 (clsE S T x) ∧ Sep (blk b [.pointer (some ⟨ba, 0, none⟩), .pointer (some ⟨bs, 0, none⟩), .pointer (some ⟨bo, 0, none⟩), .slice r S c, .int .i64 (S : Int), .int .i64 (lim : Int), .int .i64 t, .int .i64 p, .int .i64 u, .int .i64 now] 59 :: arena 148 174 ba A :: l) w') := by
 refine enter Tryz.func38 rfl Tryz.ntmps38 (Nat.le_of_ble_eq_true rfl) ?_; intro aa hS
 refine wp_seq_k ?_; intro K648 hK648
 refine wp_region_lit ?_
 revert aa
 refine qN hR ?_
 intro aa hS
 refine wpList_nil ?_
 refine hK648 _ _ ?_
 refine wp_seq_k ?_; intro K649 hK649
 refine wp_seq_k ?_; intro K650 hK650
 refine wp_region_lit ?_
 revert aa
 refine qM hR ?_
 intro aa hS
 refine sB (Bcall hS rfl Tryz.call36 (adnone_ok (hR.pk (r := blk b _ 59) pkQ)) (by decide) ?_); clear hS; intro aa ww vv hS hp
 clear hR
 obtain ⟨rfl, hR⟩ := hp
 refine wpList_nil ?_
 refine hK650 _ _ ?_
 refine condF hS rfl ?_
 refine wp_skip ?_
 refine hK649 _ _ ?_
 refine wp_seq_k ?_; intro K651 hK651
 refine wp_seq_k ?_; intro K652 hK652
 refine wp_region_lit ?_
 revert aa
 refine qM hR ?_
 refine qA hR rfl (fun _ hS => Yld.lss hS rfl rfl) ?_
 refine qM hR ?_
 intro aa hS
 refine hS.splitB (t := 11) rfl ?_ ?_ <;> clear hS
 ·
  intro hg hS
  revert aa
  refine qZ ?_
  refine qZ ?_
  refine qZ ?_
  refine qZ ?_
  refine qZ ?_
  refine qZ ?_
  refine qZ ?_
  refine qA hR rfl (fun _ hS => Yld.pickT hS rfl rfl) ?_
  intro aa hS
  refine wpList_nil ?_
  refine hK652 _ _ ?_
  refine condT hS rfl ?_
  refine wp_seq_k ?_; intro K653 hK653
  refine wp_region_lit ?_
  revert aa
  refine qN hR ?_
  intro aa hS
  refine wpList_nil ?_
  refine hK653 _ _ ?_
  refine wp_ret ?_
  repeat first | with_reducible refine thenR ?_ | with_reducible refine blockR ?_ | with_reducible refine scopeR ?_
  refine ret1 (fn := Tryz.f38) (e := .ret) (.inl rfl) Tryz.results38 hS hR ⟨_, (.tmp rfl), ?_⟩
  refine ⟨?_, (hR.sub exQ)⟩
  unfold clsE
  first | rw [if_pos (by omega)] | (rw [if_neg (by omega), if_pos hsm]) | (rw [if_neg (by omega), if_neg hsm])
 ·
  intro hg hS
  revert aa
  refine qMg hR ?_
  refine qMg hR ?_
  refine qAg hR rfl rfl rfl (fun _ hS => Yld.nilCheck hS rfl) ?_
  refine qAg hR rfl rfl rfl (fun _ hS => Yld.fieldAddr hS rfl 4 Tryz.underlying59 rfl rfl info33 (by decide)) ?_
  refine qAg hR rfl rfl rfl (fun _ hS => Yld.fieldAddr hS rfl 0 Tryz.underlying33 rfl rfl info3 (by decide)) ?_
  refine qAg hR rfl rfl rfl (fun _ hS => Yld.load1 hS rfl Tryz.underlying3 rfl rdQ) ?_
  refine qAg hR rfl rfl rfl (fun _ hS => Yld.geq hS rfl rfl) ?_
  refine qA hR rfl (fun _ hS => Yld.pickF hS rfl rfl) ?_
  intro aa hS
  refine wpList_nil ?_
  refine hK652 _ _ ?_
  refine hS.splitB (t := 19) rfl ?_ ?_ <;> clear hS
  ·
   intro hg hS
   refine condT hS rfl ?_
   refine wp_seq_k ?_; intro K654 hK654
   refine wp_region_lit ?_
   revert aa
   refine qN hR ?_
   intro aa hS
   refine wpList_nil ?_
   refine hK654 _ _ ?_
   refine wp_ret ?_
   repeat first | with_reducible refine thenR ?_ | with_reducible refine blockR ?_ | with_reducible refine scopeR ?_
   refine ret1 (fn := Tryz.f38) (e := .ret) (.inl rfl) Tryz.results38 hS hR ⟨_, (.tmp rfl), ?_⟩
   refine ⟨?_, (hR.sub exQ)⟩
   unfold clsE
   first | rw [if_pos (by omega)] | (rw [if_neg (by omega), if_pos hsm]) | (rw [if_neg (by omega), if_neg hsm])
  ·
   intro hg hS
   refine condF hS rfl ?_
   refine wp_skip ?_
   refine hK651 _ _ ?_
   refine wp_seq_k ?_; intro K655 hK655
   refine wp_seq_k ?_; intro K656 hK656
   refine wp_region_lit ?_
   revert aa
   refine qM hR ?_
   refine qA hR rfl (fun _ hS => Yld.nilCheck hS rfl) ?_
   refine qA hR rfl (fun _ hS => Yld.fieldAddr hS rfl 0 Tryz.underlying59 rfl rfl info57 (by decide)) ?_
   refine qA hR rfl (fun _ hS => Yld.fieldAddr hS rfl 0 Tryz.underlying57 rfl rfl info52 (by decide)) ?_
   refine qA hR rfl (fun _ hS => Yld.load1 hS rfl Tryz.underlying52 rfl rdQ) ?_
   refine qM hR ?_
   intro aa hS
   refine sB (Bcall hS rfl Tryz.call74 (At_okA (s := x) (hR.pk (r := arena _ _ ba _) pkQ)) (by decide) ?_); clear hS; intro aa ww vv hS hp
   clear hR
   obtain ⟨rfl, hR⟩ := hp
   unfold atV at hS
   rw [hat] at hS
   revert aa
   refine qM hR ?_
   refine qX hR ?_
   refine qX hR ?_
   intro aa hS
   refine hS.splitB (t := 29) rfl ?_ ?_ <;> clear hS
   ·
    intro hg hS
    have hsm : (ofO T.O x).isSome = true := hg
    refine sB (Balloc hS hR info120 (by rfl) (by rfl) (by decide) ?_); clear hS hR; intro aa ww bb5 hS hR
    refine sB (Bstore hS hR rfl rfl (by rfl) info120 (by rfl) pkQ (by rfl) (Nat.le_of_ble_eq_true rfl) ?_); clear hR; intro ww hR
    revert aa
    refine qN hR ?_
    intro aa hS
    refine wpList_nil ?_
    refine hK656 _ _ ?_
    refine wp_seq_k ?_; intro K657 hK657
    refine wp_region_lit ?_
    revert aa
    refine qM hR ?_
    refine qA hR rfl (fun _ hS => Yld.not hS rfl) ?_
    intro aa hS
    refine wpList_nil ?_
    refine hK657 _ _ ?_
    refine condF hS rfl ?_
    refine wp_skip ?_
    refine hK655 _ _ ?_
    refine wp_seq_k ?_; intro K658 hK658
    refine wp_region_lit ?_
    revert aa
    refine qN hR ?_
    intro aa hS
    refine wpList_nil ?_
    refine hK658 _ _ ?_
    refine wp_ret ?_
    repeat first | with_reducible refine thenR ?_ | with_reducible refine blockR ?_ | with_reducible refine scopeR ?_
    refine ret1 (fn := Tryz.f38) (e := .ret) (.inl rfl) Tryz.results38 hS hR ⟨_, (.tmp rfl), ?_⟩
    refine ⟨?_, (hR.sub exQ)⟩
    unfold clsE
    first | rw [if_pos (by omega)] | (rw [if_neg (by omega), if_pos hsm]) | (rw [if_neg (by omega), if_neg hsm])
   ·
    intro hg hS
    have hsm : ¬ (ofO T.O x).isSome = true := by simpa using hg
    refine sB (Balloc hS hR info120 (by rfl) (by rfl) (by decide) ?_); clear hS hR; intro aa ww bb5 hS hR
    refine sB (Bstore hS hR rfl rfl (by rfl) info120 (by rfl) pkQ (by rfl) (Nat.le_of_ble_eq_true rfl) ?_); clear hR; intro ww hR
    revert aa
    refine qN hR ?_
    intro aa hS
    refine wpList_nil ?_
    refine hK656 _ _ ?_
    refine wp_seq_k ?_; intro K659 hK659
    refine wp_region_lit ?_
    revert aa
    refine qM hR ?_
    refine qA hR rfl (fun _ hS => Yld.not hS rfl) ?_
    intro aa hS
    refine wpList_nil ?_
    refine hK659 _ _ ?_
    refine condT hS rfl ?_
    refine wp_seq_k ?_; intro K660 hK660
    refine wp_region_lit ?_
    revert aa
    refine qN hR ?_
    intro aa hS
    refine wpList_nil ?_
    refine hK660 _ _ ?_
    refine wp_ret ?_
    repeat first | with_reducible refine thenR ?_ | with_reducible refine blockR ?_ | with_reducible refine scopeR ?_
    refine ret1 (fn := Tryz.f38) (e := .ret) (.inl rfl) Tryz.results38 hS hR ⟨_, (.tmp rfl), ?_⟩
    refine ⟨?_, (hR.sub exQ)⟩
    unfold clsE
    first | rw [if_pos (by omega)] | (rw [if_neg (by omega), if_pos hsm]) | (rw [if_neg (by omega), if_neg hsm])
end Go.Proofs.YtkhdejjompbklaaGreat.Sx
