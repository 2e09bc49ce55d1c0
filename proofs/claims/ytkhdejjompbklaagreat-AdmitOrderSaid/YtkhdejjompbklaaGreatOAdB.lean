/-
 
-/
import Derived.Test.YtkhdejjompbklaaGreatOAdA
import Derived.Test.YtkhdejjompbklaaGreatOPz
namespace Go.Proofs.YtkhdejjompbklaaGreat.Sx
open Go
set_option maxRecDepth 20000
set_option linter.unusedVariables false
set_option linter.unusedSimpArgs false
theorem adNow_ok {t p u : Int} {S lim b : Nat} {l : List HP} {w : World} {D : Dk} (hR : Sep (deskA dd b S lim (t, p, u) D :: l) w) : CallR Tryz.prog 28 [.pointer (some ⟨b, 0, none⟩)] w (fun v w' => v = .int .i64 D.now ∧ Sep (deskA dd b S lim (t, p, u) D :: l) w') := by
 refine enter Tryz.func28 rfl Tryz.ntmps28 (Nat.le_of_ble_eq_true rfl) ?_; intro aa hS
 obtain ⟨ba, bs, bo, r, c, hR⟩ := hR.deskE
 dsimp only at hR
 refine wp_seq_k ?_; intro K661 hK661
 refine wp_region_lit ?_
 revert aa
 refine qN hR ?_
 intro aa hS
 refine wpList_nil ?_
 refine hK661 _ _ ?_
 refine wp_seq_k ?_; intro K662 hK662
 refine wp_seq_k ?_; intro K663 hK663
 refine wp_region_lit ?_
 revert aa
 refine qM hR ?_
 intro aa hS
 refine sB (Bcall hS rfl Tryz.call36 (adnone_ok (hR.pk (r := blk b _ 59) pkQ)) (by decide) ?_); clear hS; intro aa ww vv hS hp
 clear hR
 obtain ⟨rfl, hR⟩ := hp
 refine wpList_nil ?_
 refine hK663 _ _ ?_
 refine condF hS rfl ?_
 refine wp_skip ?_
 refine hK662 _ _ ?_
 refine wp_seq_k ?_; intro K664 hK664
 refine wp_region_lit ?_
 revert aa
 refine qM hR ?_
 refine qA hR rfl (fun _ hS => Yld.nilCheck hS rfl) ?_
 refine qA hR rfl (fun _ hS => Yld.fieldAddr hS rfl 9 Tryz.underlying59 rfl rfl info3 (by decide)) ?_
 refine qA hR rfl (fun _ hS => Yld.load1 hS rfl Tryz.underlying3 rfl rdQ) ?_
 refine qN hR ?_
 intro aa hS
 refine wpList_nil ?_
 refine hK664 _ _ ?_
 refine wp_ret ?_
 repeat first | with_reducible refine thenR ?_ | with_reducible refine blockR ?_ | with_reducible refine scopeR ?_
 refine ret1 (fn := Tryz.f28) (e := .ret) (.inl rfl) Tryz.results28 hS hR ⟨_, (.tmp rfl), ?_⟩
 try dsimp only [lay, List.set] at hR
 exact ⟨rfl, Sep.deskI (t := dd) (b := b) (hR.sub exQ)⟩
theorem adCount_ok {t p u : Int} {S lim b : Nat} {l : List HP} {w : World} {D : Dk} {a : Int} (ha : 0 ≤ a ∧ a ≤ 4294967295) (hR : Sep (deskA dd b S lim (t, p, u) D :: l) w) : CallR Tryz.prog 30 [.pointer (some ⟨b, 0, none⟩), .int .u32 a] w (fun v w' => v = .int .i64 ((slO D.T.O a).length : Int) ∧ Sep (deskA dd b S lim (t, p, u) D :: l) w') := by
 refine enter Tryz.func30 rfl Tryz.ntmps30 (Nat.le_of_ble_eq_true rfl) ?_; intro aa hS
 obtain ⟨ba, bs, bo, r, c, hR⟩ := hR.deskE
 dsimp only at hR
 refine wp_seq_k ?_; intro K669 hK669
 refine wp_region_lit ?_
 revert aa
 refine qN hR ?_
 intro aa hS
 refine wpList_nil ?_
 refine hK669 _ _ ?_
 refine wp_seq_k ?_; intro K670 hK670
 refine wp_seq_k ?_; intro K671 hK671
 refine wp_region_lit ?_
 revert aa
 refine qM hR ?_
 intro aa hS
 refine sB (Bcall hS rfl Tryz.call36 (adnone_ok (hR.pk (r := blk b _ 59) pkQ)) (by decide) ?_); clear hS; intro aa ww vv hS hp
 clear hR
 obtain ⟨rfl, hR⟩ := hp
 refine wpList_nil ?_
 refine hK671 _ _ ?_
 refine condF hS rfl ?_
 refine wp_skip ?_
 refine hK670 _ _ ?_
 refine wp_seq_k ?_; intro K672 hK672
 refine wp_region_lit ?_
 revert aa
 refine qM hR ?_
 refine qA hR rfl (fun _ hS => Yld.nilCheck hS rfl) ?_
 refine qA hR rfl (fun _ hS => Yld.fieldAddr hS rfl 0 Tryz.underlying59 rfl rfl info57 (by decide)) ?_
 refine qA hR rfl (fun _ hS => Yld.fieldAddr hS rfl 1 Tryz.underlying57 rfl rfl info53 (by decide)) ?_
 refine qA hR rfl (fun _ hS => Yld.load1 hS rfl Tryz.underlying53 rfl rdQ) ?_
 refine qM hR ?_
 intro aa hS
 refine sB (Bcall hS rfl Tryz.call63 (soCount_ok ha (hR.pk (r := sourceA _ bs _ _ _) pkQ)) (by decide) ?_); clear hS; intro aa ww vv hS hp
 clear hR
 obtain ⟨rfl, hR⟩ := hp
 revert aa
 refine qN hR ?_
 intro aa hS
 refine wpList_nil ?_
 refine hK672 _ _ ?_
 refine wp_ret ?_
 repeat first | with_reducible refine thenR ?_ | with_reducible refine blockR ?_ | with_reducible refine scopeR ?_
 refine ret1 (fn := Tryz.f30) (e := .ret) (.inl rfl) Tryz.results30 hS hR ⟨_, (.tmp rfl), ?_⟩
 try dsimp only [lay, List.set] at hR
 exact ⟨rfl, Sep.deskI (t := dd) (b := b) (hR.sub exQ)⟩
theorem adSlots_ok {t p u : Int} {S lim b : Nat} {l : List HP} {w : World} {D : Dk} {a : Int} (ha : 0 ≤ a ∧ a ≤ 4294967295) (hR : Sep (deskA dd b S lim (t, p, u) D :: l) w) : CallR Tryz.prog 32 [.pointer (some ⟨b, 0, none⟩), .int .u32 a] w (fun v w' => ∃ r c, v = .slice r (cst (slO D.T.O a)).length c ∧ Sep (sls r (cst (slO D.T.O a)).length c 3 1 ((cst (slO D.T.O a)).flatMap e1) :: deskA dd b S lim (t, p, u) D :: l) w') := by
 refine enter Tryz.func32 rfl Tryz.ntmps32 (Nat.le_of_ble_eq_true rfl) ?_; intro aa hS
 obtain ⟨ba, bs, bo, r, c, hR⟩ := hR.deskE
 dsimp only at hR
 refine wp_seq_k ?_; intro K673 hK673
 refine wp_region_lit ?_
 revert aa
 refine qN hR ?_
 intro aa hS
 refine wpList_nil ?_
 refine hK673 _ _ ?_
 refine wp_seq_k ?_; intro K674 hK674
 refine wp_seq_k ?_; intro K675 hK675
 refine wp_region_lit ?_
 revert aa
 refine qM hR ?_
 intro aa hS
 refine sB (Bcall hS rfl Tryz.call36 (adnone_ok (hR.pk (r := blk b _ 59) pkQ)) (by decide) ?_); clear hS; intro aa ww vv hS hp
 clear hR
 obtain ⟨rfl, hR⟩ := hp
 refine wpList_nil ?_
 refine hK675 _ _ ?_
 refine condF hS rfl ?_
 refine wp_skip ?_
 refine hK674 _ _ ?_
 refine wp_seq_k ?_; intro K676 hK676
 refine wp_region_lit ?_
 revert aa
 refine qM hR ?_
 refine qA hR rfl (fun _ hS => Yld.nilCheck hS rfl) ?_
 refine qA hR rfl (fun _ hS => Yld.fieldAddr hS rfl 0 Tryz.underlying59 rfl rfl info57 (by decide)) ?_
 refine qA hR rfl (fun _ hS => Yld.fieldAddr hS rfl 1 Tryz.underlying57 rfl rfl info53 (by decide)) ?_
 refine qA hR rfl (fun _ hS => Yld.load1 hS rfl Tryz.underlying53 rfl rdQ) ?_
 refine qM hR ?_
 intro aa hS
 refine sB (Bcall hS rfl Tryz.call65 (soSlots_ok ha (hR.pk (r := sourceA _ bs _ _ _) pkQ)) (by decide) ?_); clear hS; intro aa ww vv hS hp
 clear hR
 obtain ⟨rz, cz, rfl, hR⟩ := hp
 revert aa
 refine qN hR ?_
 intro aa hS
 refine wpList_nil ?_
 refine hK676 _ _ ?_
 refine wp_ret ?_
 repeat first | with_reducible refine thenR ?_ | with_reducible refine blockR ?_ | with_reducible refine scopeR ?_
 refine ret1 (fn := Tryz.f32) (e := .ret) (.inl rfl) Tryz.results32 hS hR ⟨_, (.tmp rfl), ?_⟩
 replace hR := Sep.deskI (t := dd) (b := b) (hR.sub exQ : Sep (_ :: _ :: _ :: _ :: _ :: sls rz _ cz 3 1 _ :: l) _)
 exact ⟨rz, cz, rfl, (hR.sub exQ)⟩
theorem adUnassured_ok {t p u : Int} {S lim b : Nat} {l : List HP} {w : World} {D : Dk} (hR : Sep (deskA dd b S lim (t, p, u) D :: l) w) : CallR Tryz.prog 9 [.pointer (some ⟨b, 0, none⟩)] w (fun v w' => ∃ r c, v = .slice r (cst D.ord).length c ∧ Sep (sls r (cst D.ord).length c 3 1 ((cst D.ord).flatMap e1) :: deskA dd b S lim (t, p, u) D :: l) w') := by
 refine enter Tryz.func9 rfl Tryz.ntmps9 (Nat.le_of_ble_eq_true rfl) ?_; intro aa hS
 obtain ⟨ba, bs, bo, r, c, hR⟩ := hR.deskE
 dsimp only at hR
 refine wp_seq_k ?_; intro K677 hK677
 refine wp_region_lit ?_
 revert aa
 refine qN hR ?_
 intro aa hS
 refine wpList_nil ?_
 refine hK677 _ _ ?_
 refine wp_seq_k ?_; intro K678 hK678
 refine wp_seq_k ?_; intro K679 hK679
 refine wp_region_lit ?_
 revert aa
 refine qM hR ?_
 intro aa hS
 refine sB (Bcall hS rfl Tryz.call36 (adnone_ok (hR.pk (r := blk b _ 59) pkQ)) (by decide) ?_); clear hS; intro aa ww vv hS hp
 clear hR
 obtain ⟨rfl, hR⟩ := hp
 refine wpList_nil ?_
 refine hK679 _ _ ?_
 refine condF hS rfl ?_
 refine wp_skip ?_
 refine hK678 _ _ ?_
 refine wp_seq_k ?_; intro K680 hK680
 refine wp_region_lit ?_
 revert aa
 refine qM hR ?_
 refine qA hR rfl (fun _ hS => Yld.nilCheck hS rfl) ?_
 refine qA hR rfl (fun _ hS => Yld.fieldAddr hS rfl 0 Tryz.underlying59 rfl rfl info57 (by decide)) ?_
 refine qA hR rfl (fun _ hS => Yld.fieldAddr hS rfl 2 Tryz.underlying57 rfl rfl info54 (by decide)) ?_
 refine qA hR rfl (fun _ hS => Yld.load1 hS rfl Tryz.underlying54 rfl rdQ) ?_
 intro aa hS
 refine sB (Bcall hS rfl Tryz.call37 (lrAll_ok (hR.pk (r := lruA _ _ _ _ bo _ _ _ _) pkQ)) (by decide) ?_); clear hS; intro aa ww vv hS hp
 clear hR
 obtain ⟨rz, cz, rfl, hR⟩ := hp
 revert aa
 refine qN hR ?_
 intro aa hS
 refine wpList_nil ?_
 refine hK680 _ _ ?_
 refine wp_ret ?_
 repeat first | with_reducible refine thenR ?_ | with_reducible refine blockR ?_ | with_reducible refine scopeR ?_
 refine ret1 (fn := Tryz.f9) (e := .ret) (.inl rfl) Tryz.results9 hS hR ⟨_, (.tmp rfl), ?_⟩
 replace hR := Sep.deskI (t := dd) (b := b) (hR.sub exQ : Sep (_ :: _ :: _ :: _ :: _ :: sls rz _ cz 3 1 _ :: l) _)
 exact ⟨rz, cz, rfl, (hR.sub exQ)⟩
theorem adOf_ok {t p u : Int} {S lim b : Nat} {l : List HP} {w : World} {D : Dk} {x : Int} (hR : Sep (deskA dd b S lim (t, p, u) D :: l) w) : CallR Tryz.prog 12 [.pointer (some ⟨b, 0, none⟩), .int .i64 x] w (fun v w' => v = .tuple [.int .u32 ((ofO D.T.O x).getD 0), .bool (ofO D.T.O x).isSome].toArray ∧ Sep (deskA dd b S lim (t, p, u) D :: l) w') := by
 refine enter Tryz.func12 rfl Tryz.ntmps12 (Nat.le_of_ble_eq_true rfl) ?_; intro aa hS
 obtain ⟨ba, bs, bo, r, c, hR⟩ := hR.deskE
 dsimp only at hR
 refine wp_seq_k ?_; intro K681 hK681
 refine wp_region_lit ?_
 revert aa
 refine qN hR ?_
 refine qN hR ?_
 intro aa hS
 refine wpList_nil ?_
 refine hK681 _ _ ?_
 refine wp_seq_k ?_; intro K682 hK682
 refine wp_seq_k ?_; intro K683 hK683
 refine wp_region_lit ?_
 revert aa
 refine qM hR ?_
 intro aa hS
 refine sB (Bcall hS rfl Tryz.call36 (adnone_ok (hR.pk (r := blk b _ 59) pkQ)) (by decide) ?_); clear hS; intro aa ww vv hS hp
 clear hR
 obtain ⟨rfl, hR⟩ := hp
 refine wpList_nil ?_
 refine hK683 _ _ ?_
 refine condF hS rfl ?_
 refine wp_skip ?_
 refine hK682 _ _ ?_
 refine wp_seq_k ?_; intro K684 hK684
 refine wp_region_lit ?_
 revert aa
 refine qM hR ?_
 refine qA hR rfl (fun _ hS => Yld.nilCheck hS rfl) ?_
 refine qA hR rfl (fun _ hS => Yld.fieldAddr hS rfl 0 Tryz.underlying59 rfl rfl info57 (by decide)) ?_
 refine qA hR rfl (fun _ hS => Yld.fieldAddr hS rfl 1 Tryz.underlying57 rfl rfl info53 (by decide)) ?_
 refine qA hR rfl (fun _ hS => Yld.load1 hS rfl Tryz.underlying53 rfl rdQ) ?_
 refine qM hR ?_
 intro aa hS
 refine sB (Bcall hS rfl Tryz.call40 (soOf_ok (x := x) (hR.pk (r := sourceA _ bs _ _ _) pkQ)) (by decide) ?_); clear hS; intro aa ww vv hS hp
 clear hR
 obtain ⟨rfl, hR⟩ := hp
 revert aa
 refine qX hR ?_
 refine qX hR ?_
 refine qN hR ?_
 refine qN hR ?_
 intro aa hS
 refine wpList_nil ?_
 refine hK684 _ _ ?_
 refine wp_ret ?_
 repeat first | with_reducible refine thenR ?_ | with_reducible refine blockR ?_ | with_reducible refine scopeR ?_
 refine retN (fn := Tryz.f12) (e := .ret) (.inl rfl) Tryz.results12 hS hR ⟨_, .cons (.tmp rfl) (.cons (.tmp rfl) (.nil)), rfl, ?_⟩
 try dsimp only [lay, List.set] at hR
 exact ⟨rfl, Sep.deskI (t := dd) (b := b) (hR.sub exQ)⟩
theorem adAssured_ok {t p u : Int} {S lim b : Nat} {l : List HP} {w : World} {D : Dk} (hD : DW S lim D) {x : Int} (hR : Sep (deskA dd b S lim (t, p, u) D :: l) w) : CallR Tryz.prog 11 [.pointer (some ⟨b, 0, none⟩), .int .i64 x] w (fun v w' => v = .bool (asD S D x) ∧ Sep (deskA dd b S lim (t, p, u) D :: l) w') := by
 refine enter Tryz.func11 rfl Tryz.ntmps11 (Nat.le_of_ble_eq_true rfl) ?_; intro aa hS
 obtain ⟨ba, bs, bo, r, c, hR⟩ := hR.deskE
 dsimp only at hR
 refine wp_seq_k ?_; intro K685 hK685
 refine wp_region_lit ?_
 revert aa
 refine qN hR ?_
 intro aa hS
 refine wpList_nil ?_
 refine hK685 _ _ ?_
 refine wp_seq_k ?_; intro K686 hK686
 refine wp_seq_k ?_; intro K687 hK687
 refine wp_region_lit ?_
 revert aa
 refine qM hR ?_
 refine qM hR ?_
 intro aa hS
 refine sB (Bcall hS rfl Tryz.call38 (aderror_ok (x := x) hD.at ((hR.pk (r := arena _ _ ba _) pkQ).pk (r := blk b _ 59) pkQ)) (by decide) ?_); clear hS; intro aa ww vv hS hp
 clear hR
 obtain ⟨rfl, hR⟩ := hp
 refine sA hS hR (Yld.neq hS rfl rfl) (by decide) ?_; clear hS; intro aa hS
 refine wpList_nil ?_
 refine hK687 _ _ ?_
 refine hS.splitB (t := 10) rfl ?_ ?_ <;> clear hS
 ·
  intro hg hS
  have hz : ¬ clsE S D.T x = 0 := by simpa using hg
  refine condT hS rfl ?_
  refine wp_seq_k ?_; intro K688 hK688
  refine wp_region_lit ?_
  revert aa
  refine qN hR ?_
  intro aa hS
  refine wpList_nil ?_
  refine hK688 _ _ ?_
  refine wp_ret ?_
  repeat first | with_reducible refine thenR ?_ | with_reducible refine blockR ?_ | with_reducible refine scopeR ?_
  refine ret1 (fn := Tryz.f11) (e := .ret) (.inl rfl) Tryz.results11 hS hR ⟨_, (.tmp rfl), ?_⟩
  refine ⟨?_, Sep.deskI (t := dd) (b := b) (hR.sub exQ)⟩
  unfold asD
  rw [decide_eq_false hz]; rfl
 ·
  intro hg hS
  have hz : clsE S D.T x = 0 := by simpa using hg
  refine condF hS rfl ?_
  refine wp_skip ?_
  refine hK686 _ _ ?_
  refine wp_seq_k ?_; intro K689 hK689
  refine wp_region_lit ?_
  revert aa
  refine qM hR ?_
  refine qA hR rfl (fun _ hS => Yld.nilCheck hS rfl) ?_
  refine qA hR rfl (fun _ hS => Yld.fieldAddr hS rfl 0 Tryz.underlying59 rfl rfl info57 (by decide)) ?_
  refine qA hR rfl (fun _ hS => Yld.fieldAddr hS rfl 2 Tryz.underlying57 rfl rfl info54 (by decide)) ?_
  refine qA hR rfl (fun _ hS => Yld.load1 hS rfl Tryz.underlying54 rfl rdQ) ?_
  refine qM hR ?_
  intro aa hS
  refine sB (Bcall hS rfl Tryz.call39 (lrWhen_ok (i := x) (hR.pk (r := lruA _ _ _ _ bo _ _ _ _) pkQ)) (by decide) ?_); clear hS; intro aa ww vv hS hp
  clear hR
  obtain ⟨rfl, hR⟩ := hp
  rw [when_at (clsE_in hz).1] at hS
  revert aa
  refine qM hR ?_
  refine qX hR ?_
  refine qX hR ?_
  refine qN hR ?_
  refine qN hR ?_
  intro aa hS
  refine wpList_nil ?_
  refine hK689 _ _ ?_
  refine wp_seq_k ?_; intro K690 hK690
  refine wp_region_lit ?_
  revert aa
  refine qM hR ?_
  refine qA hR rfl (fun _ hS => Yld.not hS rfl) ?_
  refine qN hR ?_
  intro aa hS
  refine wpList_nil ?_
  refine hK690 _ _ ?_
  refine wp_ret ?_
  repeat first | with_reducible refine thenR ?_ | with_reducible refine blockR ?_ | with_reducible refine scopeR ?_
  refine ret1 (fn := Tryz.f11) (e := .ret) (.inl rfl) Tryz.results11 hS hR ⟨_, (.tmp rfl), ?_⟩
  refine ⟨?_, Sep.deskI (t := dd) (b := b) (hR.sub exQ)⟩
  unfold asD
  rw [decide_eq_true hz]; rfl
theorem adTokens_ok {t p u : Int} {S lim b : Nat} {l : List HP} {w : World} {D : Dk} (hD : DKF S lim t p u D) {a : Int} (ha : 0 ≤ a ∧ a ≤ 4294967295) (hR : Sep (deskA dd b S lim (t, p, u) D :: l) w) : CallR Tryz.prog 31 [.pointer (some ⟨b, 0, none⟩), .int .u32 a] w (fun v w' => v = .int .i64 (bkD t p u D.T D.B a D.now / p) ∧ Sep (deskA dd b S lim (t, p, u) D :: l) w') := by
 refine enter Tryz.func31 rfl Tryz.ntmps31 (Nat.le_of_ble_eq_true rfl) ?_; intro aa hS
 obtain ⟨ba, bs, bo, r, c, hR⟩ := hR.deskE
 dsimp only at hR
 have hn : D.now ≤ D.now ∧ D.now ≤ 1099511627776 := ⟨Int.le_refl _, hD.w.now.2⟩
 have hRB := hD.bk (a := a) hn
 refine wp_seq_k ?_; intro K691 hK691
 refine wp_region_lit ?_
 revert aa
 refine qN hR ?_
 intro aa hS
 refine wpList_nil ?_
 refine hK691 _ _ ?_
 refine wp_seq_k ?_; intro K692 hK692
 refine wp_seq_k ?_; intro K693 hK693
 refine wp_region_lit ?_
 revert aa
 refine qM hR ?_
 intro aa hS
 refine sB (Bcall hS rfl Tryz.call36 (adnone_ok (hR.pk (r := blk b _ 59) pkQ)) (by decide) ?_); clear hS; intro aa ww vv hS hp
 clear hR
 obtain ⟨rfl, hR⟩ := hp
 refine wpList_nil ?_
 refine hK693 _ _ ?_
 refine condF hS rfl ?_
 refine wp_skip ?_
 refine hK692 _ _ ?_
 refine wp_seq_k ?_; intro K694 hK694
 refine drawn krQ hR Ex.refl ?_; clear hR; intro ww hR hR0
 revert aa
 refine eA 0 rfl krQ (fun _ _ _ h => h) hR0 rfl (fun _ hS => Yld.move hS rfl) ?_
 refine eA 1 rfl krQ (fun _ _ _ h => h) hR0 rfl (fun _ hS => Yld.nilCheck hS rfl) ?_
 refine eA 2 rfl krQ (fun _ _ _ h => h) hR0 rfl (fun _ hS => Yld.fieldAddr hS rfl 4 Tryz.underlying59 rfl rfl info33 (by decide)) ?_
 refine eA 3 rfl krQ (fun _ _ _ h => h) hR0 rfl (fun _ hS => Yld.fieldAddr hS rfl 2 Tryz.underlying33 rfl rfl info31 (by decide)) ?_
 intro aa hS
 refine dA 4 rfl krQ krQ krQ (fun _ _ _ h => h) hS hR0 (Yld.loadAgg hS rfl Tryz.underlying31 rfl info31 rdsQ3 (by rfl)) (by decide) ?_; clear hS; intro aa hS
 revert aa
 refine eA 5 rfl krQ (fun _ _ _ h => h) hR0 rfl (fun _ hS => Yld.move hS rfl) ?_
 refine eA 6 rfl krQ (fun _ _ _ h => h) hR0 rfl (fun _ hS => Yld.move hS rfl) ?_
 refine eA 7 rfl krQ (fun _ _ _ h => h) hR0 rfl (fun _ hS => Yld.move hS rfl) ?_
 refine eA 8 rfl krQ (fun _ _ _ h => h) hR0 rfl (fun _ hS => Yld.nilCheck hS rfl) ?_
 refine eA 9 rfl krQ (fun _ _ _ h => h) hR0 rfl (fun _ hS => Yld.fieldAddr hS rfl 9 Tryz.underlying59 rfl rfl info3 (by decide)) ?_
 refine eA 10 rfl krQ (fun _ _ _ h => h) hR0 rfl (fun _ hS => Yld.load1 hS rfl Tryz.underlying3 rfl rdQ) ?_
 refine eA 12 rfl krQ (fun _ _ _ h => h) hR0 rfl (fun _ hS => Yld.move hS rfl) ?_
 refine eA 13 rfl krQ (fun _ _ _ h => h) hR0 rfl (fun _ hS => Yld.nilCheck hS rfl) ?_
 refine eA 14 rfl krQ (fun _ _ _ h => h) hR0 rfl (fun _ hS => Yld.fieldAddr hS rfl 9 Tryz.underlying59 rfl rfl info3 (by decide)) ?_
 refine eA 15 rfl krQ (fun _ _ _ h => h) hR0 rfl (fun _ hS => Yld.load1 hS rfl Tryz.underlying3 rfl rdQ) ?_
 intro aa hS
 refine dOne (i := 11) krQ ?_
 refine dop rfl (Bcall hS rfl Tryz.call49 (adbucket_ok ha hD.rr hD.w.now hD.w.blen (fun q hq => hD.got hn hq) (((hR.pk (r := sls r _ _ _ _ _) pkQ).pk (r := sourceA _ bs _ _ _) pkQ).pk (r := blk b _ 59) pkQ)) (by decide) ?_); clear hS; intro aa ww vv hS hp
 clear hR hR0
 obtain ⟨rfl, hR⟩ := hp
 refine dnext (hR.sub exQ) ?_; intro hR0
 refine dOne (i := 16) krQ ?_
 refine dop rfl (Bcall hS rfl Tryz.call64 (bkTokens_ok hR) (by decide) ?_); clear hS; intro aa ww vv hS hp
 clear hR hR0
 obtain ⟨rfl, hR⟩ := hp
 rw [tok1 hRB] at hS; dsimp only at hS
 refine dnext (hR.sub exQ) ?_; intro hR0
 revert aa
 refine eA 17 rfl krQ (fun _ _ _ h => h) hR0 rfl (fun _ hS => Yld.move hS rfl) ?_
 refine eA 18 rfl krQ (fun _ _ _ h => h) hR0 rfl (fun _ hS => Yld.extract hS rfl rfl) ?_
 refine eA 19 rfl krQ (fun _ _ _ h => h) hR0 rfl (fun _ hS => Yld.extract hS rfl rfl) ?_
 refine eA 20 rfl krQ (fun _ _ _ h => h) hR0 rfl (fun _ hS => Yld.assign hS rfl) ?_
 refine eA 21 rfl krQ (fun _ _ _ h => h) hR0 rfl (fun _ hS => Yld.assign hS rfl) ?_
 intro aa hS
 refine wpAnyH_done krQ ?_ _; clear hR0
 refine hK694 _ _ ?_
 refine wp_seq_k ?_; intro K695 hK695
 refine wp_region_lit ?_
 revert aa
 refine qM hR ?_
 refine qN hR ?_
 intro aa hS
 refine wpList_nil ?_
 refine hK695 _ _ ?_
 refine wp_ret ?_
 repeat first | with_reducible refine thenR ?_ | with_reducible refine blockR ?_ | with_reducible refine scopeR ?_
 refine ret1 (fn := Tryz.f31) (e := .ret) (.inl rfl) Tryz.results31 hS hR ⟨_, (.tmp rfl), ?_⟩
 try dsimp only [lay, List.set] at hR
 exact ⟨rfl, Sep.deskI (t := dd) (b := b) (hR.sub exQ)⟩
theorem adSee_bad {t p u : Int} {S lim b : Nat} {l : List HP} {w : World} {D : Dk} (hD : DW S lim D) {x : Int} (hz : ¬ clsE S D.T x = 0) (hR : Sep (deskA dd b S lim (t, p, u) D :: l) w) : CallR Tryz.prog 23 [.pointer (some ⟨b, 0, none⟩), .int .i64 x] w (fun v w' => v = .int .i64 (clsE S D.T x) ∧ Sep (deskA dd b S lim (t, p, u) D :: l) w') := by
 refine enter Tryz.func23 rfl Tryz.ntmps23 (Nat.le_of_ble_eq_true rfl) ?_; intro aa hS
 obtain ⟨ba, bs, bo, r, c, hR⟩ := hR.deskE
 dsimp only at hR
 refine wp_seq_k ?_; intro K696 hK696
 refine wp_region_lit ?_
 revert aa
 refine qN hR ?_
 intro aa hS
 refine wpList_nil ?_
 refine hK696 _ _ ?_
 refine wp_seq_k ?_; intro K697 hK697
 refine wp_region_lit ?_
 revert aa
 refine qM hR ?_
 refine qM hR ?_
 intro aa hS
 refine sB (Bcall hS rfl Tryz.call38 (aderror_ok (x := x) hD.at ((hR.pk (r := arena _ _ ba _) pkQ).pk (r := blk b _ 59) pkQ)) (by decide) ?_); clear hS; intro aa ww vv hS hp
 clear hR
 obtain ⟨rfl, hR⟩ := hp
 revert aa
 refine qN hR ?_
 intro aa hS
 refine wpList_nil ?_
 refine hK697 _ _ ?_
 refine wp_seq_k ?_; intro K698 hK698
 refine wp_seq_k ?_; intro K699 hK699
 refine wp_region_lit ?_
 revert aa
 refine qM hR ?_
 refine qA hR rfl (fun _ hS => Yld.eql hS rfl rfl) ?_
 refine qB (t := 10) false rfl (by exact decide_eq_false hz) ?_
 refine qM hR ?_
 refine qZ ?_
 refine qZ ?_
 refine qZ ?_
 refine qZ ?_
 refine qA hR rfl (fun _ hS => Yld.pickF hS rfl rfl) ?_
 intro aa hS
 refine wpList_nil ?_
 refine hK699 _ _ ?_
 refine condF hS rfl ?_
 refine wp_skip ?_
 refine hK698 _ _ ?_
 refine wp_seq_k ?_; intro K700 hK700
 refine wp_region_lit ?_
 revert aa
 refine qM hR ?_
 refine qN hR ?_
 intro aa hS
 refine wpList_nil ?_
 refine hK700 _ _ ?_
 refine wp_ret ?_
 repeat first | with_reducible refine thenR ?_ | with_reducible refine blockR ?_ | with_reducible refine scopeR ?_
 refine ret1 (fn := Tryz.f23) (e := .ret) (.inl rfl) Tryz.results23 hS hR ⟨_, (.tmp rfl), ?_⟩
 try dsimp only [lay, List.set] at hR
 exact ⟨rfl, Sep.deskI (t := dd) (b := b) (hR.sub exQ)⟩
theorem adAss_bad {t p u : Int} {S lim b : Nat} {l : List HP} {w : World} {D : Dk} (hD : DW S lim D) {x : Int} (hz : ¬ clsE S D.T x = 0) (hR : Sep (deskA dd b S lim (t, p, u) D :: l) w) : CallR Tryz.prog 24 [.pointer (some ⟨b, 0, none⟩), .int .i64 x] w (fun v w' => v = .int .i64 (clsE S D.T x) ∧ Sep (deskA dd b S lim (t, p, u) D :: l) w') := by
 refine enter Tryz.func24 rfl Tryz.ntmps24 (Nat.le_of_ble_eq_true rfl) ?_; intro aa hS
 obtain ⟨ba, bs, bo, r, c, hR⟩ := hR.deskE
 dsimp only at hR
 refine wp_seq_k ?_; intro K701 hK701
 refine wp_region_lit ?_
 revert aa
 refine qN hR ?_
 intro aa hS
 refine wpList_nil ?_
 refine hK701 _ _ ?_
 refine wp_seq_k ?_; intro K702 hK702
 refine wp_region_lit ?_
 revert aa
 refine qM hR ?_
 refine qM hR ?_
 intro aa hS
 refine sB (Bcall hS rfl Tryz.call38 (aderror_ok (x := x) hD.at ((hR.pk (r := arena _ _ ba _) pkQ).pk (r := blk b _ 59) pkQ)) (by decide) ?_); clear hS; intro aa ww vv hS hp
 clear hR
 obtain ⟨rfl, hR⟩ := hp
 revert aa
 refine qN hR ?_
 intro aa hS
 refine wpList_nil ?_
 refine hK702 _ _ ?_
 refine wp_seq_k ?_; intro K703 hK703
 refine wp_seq_k ?_; intro K704 hK704
 refine wp_region_lit ?_
 revert aa
 refine qM hR ?_
 refine qA hR rfl (fun _ hS => Yld.eql hS rfl rfl) ?_
 refine qB (t := 10) false rfl (by exact decide_eq_false hz) ?_
 intro aa hS
 refine wpList_nil ?_
 refine hK704 _ _ ?_
 refine condF hS rfl ?_
 refine wp_skip ?_
 refine hK703 _ _ ?_
 refine wp_seq_k ?_; intro K705 hK705
 refine wp_region_lit ?_
 revert aa
 refine qM hR ?_
 refine qN hR ?_
 intro aa hS
 refine wpList_nil ?_
 refine hK705 _ _ ?_
 refine wp_ret ?_
 repeat first | with_reducible refine thenR ?_ | with_reducible refine blockR ?_ | with_reducible refine scopeR ?_
 refine ret1 (fn := Tryz.f24) (e := .ret) (.inl rfl) Tryz.results24 hS hR ⟨_, (.tmp rfl), ?_⟩
 try dsimp only [lay, List.set] at hR
 exact ⟨rfl, Sep.deskI (t := dd) (b := b) (hR.sub exQ)⟩
theorem adClo_bad {t p u : Int} {S lim b : Nat} {l : List HP} {w : World} {D : Dk} (hD : DW S lim D) {x : Int} (hz : ¬ clsE S D.T x = 0) (hR : Sep (deskA dd b S lim (t, p, u) D :: l) w) : CallR Tryz.prog 25 [.pointer (some ⟨b, 0, none⟩), .int .i64 x] w (fun v w' => v = .int .i64 (clsE S D.T x) ∧ Sep (deskA dd b S lim (t, p, u) D :: l) w') := by
 refine enter Tryz.func25 rfl Tryz.ntmps25 (Nat.le_of_ble_eq_true rfl) ?_; intro aa hS
 obtain ⟨ba, bs, bo, r, c, hR⟩ := hR.deskE
 dsimp only at hR
 refine wp_seq_k ?_; intro K706 hK706
 refine wp_region_lit ?_
 revert aa
 refine qN hR ?_
 intro aa hS
 refine wpList_nil ?_
 refine hK706 _ _ ?_
 refine wp_seq_k ?_; intro K707 hK707
 refine wp_region_lit ?_
 revert aa
 refine qM hR ?_
 refine qM hR ?_
 intro aa hS
 refine sB (Bcall hS rfl Tryz.call38 (aderror_ok (x := x) hD.at ((hR.pk (r := arena _ _ ba _) pkQ).pk (r := blk b _ 59) pkQ)) (by decide) ?_); clear hS; intro aa ww vv hS hp
 clear hR
 obtain ⟨rfl, hR⟩ := hp
 revert aa
 refine qN hR ?_
 intro aa hS
 refine wpList_nil ?_
 refine hK707 _ _ ?_
 refine wp_seq_k ?_; intro K708 hK708
 refine wp_seq_k ?_; intro K709 hK709
 refine wp_region_lit ?_
 revert aa
 refine qM hR ?_
 refine qA hR rfl (fun _ hS => Yld.eql hS rfl rfl) ?_
 refine qB (t := 10) false rfl (by exact decide_eq_false hz) ?_
 intro aa hS
 refine wpList_nil ?_
 refine hK709 _ _ ?_
 refine condF hS rfl ?_
 refine wp_skip ?_
 refine hK708 _ _ ?_
 refine wp_seq_k ?_; intro K710 hK710
 refine wp_region_lit ?_
 revert aa
 refine qM hR ?_
 refine qN hR ?_
 intro aa hS
 refine wpList_nil ?_
 refine hK710 _ _ ?_
 refine wp_ret ?_
 repeat first | with_reducible refine thenR ?_ | with_reducible refine blockR ?_ | with_reducible refine scopeR ?_
 refine ret1 (fn := Tryz.f25) (e := .ret) (.inl rfl) Tryz.results25 hS hR ⟨_, (.tmp rfl), ?_⟩
 try dsimp only [lay, List.set] at hR
 exact ⟨rfl, Sep.deskI (t := dd) (b := b) (hR.sub exQ)⟩
theorem adSee_ass {t p u : Int} {S lim b : Nat} {l : List HP} {w : World} {D : Dk} (hD : DW S lim D) {a : Int} {s : Nat} (hm : (a, s) ∈ D.T.O) (hso : s ∉ D.ord) (hR : Sep (deskA dd b S lim (t, p, u) D :: l) w) : CallR Tryz.prog 23 [.pointer (some ⟨b, 0, none⟩), .int .i64 (s : Int)] w (fun v w' => v = .int .i64 0 ∧ Sep (deskA dd b S lim (t, p, u) D :: l) w') := by
 refine enter Tryz.func23 rfl Tryz.ntmps23 (Nat.le_of_ble_eq_true rfl) ?_; intro aa hS
 obtain ⟨ba, bs, bo, r, c, hR⟩ := hR.deskE
 dsimp only at hR
 obtain ⟨hcl, hs, hq, v0, hv⟩ := clsE_of hD hm
 refine wp_seq_k ?_; intro K711 hK711
 refine wp_region_lit ?_
 revert aa
 refine qN hR ?_
 intro aa hS
 refine wpList_nil ?_
 refine hK711 _ _ ?_
 refine wp_seq_k ?_; intro K712 hK712
 refine wp_region_lit ?_
 revert aa
 refine qM hR ?_
 refine qM hR ?_
 intro aa hS
 refine sB (Bcall hS rfl Tryz.call38 (aderror_ok (x := (s : Int)) hD.at ((hR.pk (r := arena _ _ ba _) pkQ).pk (r := blk b _ 59) pkQ)) (by decide) ?_); clear hS; intro aa ww vv hS hp
 clear hR
 obtain ⟨rfl, hR⟩ := hp
 rw [hcl] at hS
 revert aa
 refine qN hR ?_
 intro aa hS
 refine wpList_nil ?_
 refine hK712 _ _ ?_
 refine wp_seq_k ?_; intro K713 hK713
 refine wp_seq_k ?_; intro K714 hK714
 refine wp_region_lit ?_
 revert aa
 refine qM hR ?_
 refine qA hR rfl (fun _ hS => Yld.eql hS rfl rfl) ?_
 refine qB (t := 10) true rfl (by rfl) ?_
 refine qM hR ?_
 refine qMg hR ?_
 refine qMg hR ?_
 intro aa hS
 refine sBg hS rfl rfl (Bcall hS rfl Tryz.call11 (adAssured_ok (x := (s : Int)) hD (Sep.deskI (t := dd) (b := b) (lim := lim) (q1 := t) (q2 := p) (q3 := u) (hR.sub exQ))) (by decide) ?_); clear hS; intro aa ww vv hS hp
 clear hR
 obtain ⟨rfl, hR⟩ := hp
 rw [show asD S D (s : Int) = true from by unfold asD; rw [hcl, Int.toNat_natCast]; simp [hso]] at hS
 obtain ⟨ba, bs, bo, r, c, hR⟩ := hR.deskE
 dsimp only at hR
 revert aa
 refine qAg hR rfl rfl rfl (fun _ hS => Yld.not hS rfl) ?_
 refine qA hR rfl (fun _ hS => Yld.pickT hS rfl rfl) ?_
 intro aa hS
 refine wpList_nil ?_
 refine hK714 _ _ ?_
 refine condF hS rfl ?_
 refine wp_skip ?_
 refine hK713 _ _ ?_
 refine wp_seq_k ?_; intro K715 hK715
 refine wp_region_lit ?_
 revert aa
 refine qM hR ?_
 refine qN hR ?_
 intro aa hS
 refine wpList_nil ?_
 refine hK715 _ _ ?_
 refine wp_ret ?_
 repeat first | with_reducible refine thenR ?_ | with_reducible refine blockR ?_ | with_reducible refine scopeR ?_
 refine ret1 (fn := Tryz.f23) (e := .ret) (.inl rfl) Tryz.results23 hS hR ⟨_, (.tmp rfl), ?_⟩
 try dsimp only [lay, List.set] at hR
 exact ⟨rfl, Sep.deskI (t := dd) (b := b) (hR.sub exQ)⟩
theorem adSee_un {t p u : Int} {S lim b : Nat} {l : List HP} {w : World} {D : Dk} (hD : DW S lim D) {a : Int} {s : Nat} (hm : (a, s) ∈ D.T.O) (hso : s ∈ D.ord) (hun : D.un ≤ 4611686018427387904) (hR : Sep (deskA dd b S lim (t, p, u) D :: l) w) : CallR Tryz.prog 23 [.pointer (some ⟨b, 0, none⟩), .int .i64 (s : Int)] w (fun v w' => v = .int .i64 0 ∧ Sep (deskA dd b S lim (t, p, u) (seeD D s) :: l) w') := by
 refine enter Tryz.func23 rfl Tryz.ntmps23 (Nat.le_of_ble_eq_true rfl) ?_; intro aa hS
 obtain ⟨ba, bs, bo, r, c, hR⟩ := hR.deskE
 dsimp only at hR
 obtain ⟨hcl, hs, hq, v0, hv⟩ := clsE_of hD hm
 refine wp_seq_k ?_; intro K716 hK716
 refine wp_region_lit ?_
 revert aa
 refine qN hR ?_
 intro aa hS
 refine wpList_nil ?_
 refine hK716 _ _ ?_
 refine wp_seq_k ?_; intro K717 hK717
 refine wp_region_lit ?_
 revert aa
 refine qM hR ?_
 refine qM hR ?_
 intro aa hS
 refine sB (Bcall hS rfl Tryz.call38 (aderror_ok (x := (s : Int)) hD.at ((hR.pk (r := arena _ _ ba _) pkQ).pk (r := blk b _ 59) pkQ)) (by decide) ?_); clear hS; intro aa ww vv hS hp
 clear hR
 obtain ⟨rfl, hR⟩ := hp
 rw [hcl] at hS
 revert aa
 refine qN hR ?_
 intro aa hS
 refine wpList_nil ?_
 refine hK717 _ _ ?_
 refine wp_seq_k ?_; intro K718 hK718
 refine wp_seq_k ?_; intro K719 hK719
 refine wp_region_lit ?_
 revert aa
 refine qM hR ?_
 refine qA hR rfl (fun _ hS => Yld.eql hS rfl rfl) ?_
 refine qB (t := 10) true rfl (by rfl) ?_
 refine qM hR ?_
 refine qMg hR ?_
 refine qMg hR ?_
 intro aa hS
 refine sBg hS rfl rfl (Bcall hS rfl Tryz.call11 (adAssured_ok (x := (s : Int)) hD (Sep.deskI (t := dd) (b := b) (lim := lim) (q1 := t) (q2 := p) (q3 := u) (hR.sub exQ))) (by decide) ?_); clear hS; intro aa ww vv hS hp
 clear hR
 obtain ⟨rfl, hR⟩ := hp
 rw [show asD S D (s : Int) = false from by unfold asD; rw [hcl, Int.toNat_natCast]; simp [hso]] at hS
 obtain ⟨ba, bs, bo, r, c, hR⟩ := hR.deskE
 dsimp only at hR
 revert aa
 refine qAg hR rfl rfl rfl (fun _ hS => Yld.not hS rfl) ?_
 refine qA hR rfl (fun _ hS => Yld.pickT hS rfl rfl) ?_
 intro aa hS
 refine wpList_nil ?_
 refine hK719 _ _ ?_
 refine condT hS rfl ?_
 refine wp_region_lit ?_
 revert aa
 refine qM hR ?_
 refine qA hR rfl (fun _ hS => Yld.nilCheck hS rfl) ?_
 refine qA hR rfl (fun _ hS => Yld.fieldAddr hS rfl 0 Tryz.underlying59 rfl rfl info57 (by decide)) ?_
 refine qA hR rfl (fun _ hS => Yld.fieldAddr hS rfl 2 Tryz.underlying57 rfl rfl info54 (by decide)) ?_
 refine qA hR rfl (fun _ hS => Yld.load1 hS rfl Tryz.underlying54 rfl rdQ) ?_
 refine qM hR ?_
 intro aa hS
 refine sB (Bcall hS rfl Tryz.call61 (lrSee_ok (i := (s : Int)) (hR.pk (r := lruA _ _ _ _ bo _ _ _ _) pkQ) ⟨hD.un, hun⟩) (by decide) ?_); clear hS; intro aa ww vv hS hp
 clear hR
 obtain ⟨rfl, hR⟩ := hp
 rw [(see_at (ord := D.ord) (tm := D.tm) (un := D.un) hs).1, (see_at (ord := D.ord) (tm := D.tm) (un := D.un) hs).2.1, (see_at (ord := D.ord) (tm := D.tm) (un := D.un) hs).2.2.1] at hR
 refine wpList_nil ?_
 refine hK718 _ _ ?_
 refine wp_seq_k ?_; intro K720 hK720
 refine wp_region_lit ?_
 revert aa
 refine qM hR ?_
 refine qN hR ?_
 intro aa hS
 refine wpList_nil ?_
 refine hK720 _ _ ?_
 refine wp_ret ?_
 repeat first | with_reducible refine thenR ?_ | with_reducible refine blockR ?_ | with_reducible refine scopeR ?_
 refine ret1 (fn := Tryz.f23) (e := .ret) (.inl rfl) Tryz.results23 hS hR ⟨_, (.tmp rfl), ?_⟩
 try dsimp only [lay, List.set] at hR
 exact ⟨rfl, Sep.deskI (t := dd) (b := b) (hR.sub exQ)⟩
theorem adAss_ok {t p u : Int} {S lim b : Nat} {l : List HP} {w : World} {D : Dk} (hD : DW S lim D) {a : Int} {s : Nat} (hm : (a, s) ∈ D.T.O) (hR : Sep (deskA dd b S lim (t, p, u) D :: l) w) : CallR Tryz.prog 24 [.pointer (some ⟨b, 0, none⟩), .int .i64 (s : Int)] w (fun v w' => v = .int .i64 0 ∧ Sep (deskA dd b S lim (t, p, u) (assD D s) :: l) w') := by
 refine enter Tryz.func24 rfl Tryz.ntmps24 (Nat.le_of_ble_eq_true rfl) ?_; intro aa hS
 obtain ⟨ba, bs, bo, r, c, hR⟩ := hR.deskE
 dsimp only at hR
 obtain ⟨hcl, hs, hq, v0, hv⟩ := clsE_of hD hm
 refine wp_seq_k ?_; intro K721 hK721
 refine wp_region_lit ?_
 revert aa
 refine qN hR ?_
 intro aa hS
 refine wpList_nil ?_
 refine hK721 _ _ ?_
 refine wp_seq_k ?_; intro K722 hK722
 refine wp_region_lit ?_
 revert aa
 refine qM hR ?_
 refine qM hR ?_
 intro aa hS
 refine sB (Bcall hS rfl Tryz.call38 (aderror_ok (x := (s : Int)) hD.at ((hR.pk (r := arena _ _ ba _) pkQ).pk (r := blk b _ 59) pkQ)) (by decide) ?_); clear hS; intro aa ww vv hS hp
 clear hR
 obtain ⟨rfl, hR⟩ := hp
 rw [hcl] at hS
 revert aa
 refine qN hR ?_
 intro aa hS
 refine wpList_nil ?_
 refine hK722 _ _ ?_
 refine wp_seq_k ?_; intro K723 hK723
 refine wp_seq_k ?_; intro K724 hK724
 refine wp_region_lit ?_
 revert aa
 refine qM hR ?_
 refine qA hR rfl (fun _ hS => Yld.eql hS rfl rfl) ?_
 refine qB (t := 10) true rfl (by rfl) ?_
 intro aa hS
 refine wpList_nil ?_
 refine hK724 _ _ ?_
 refine condT hS rfl ?_
 refine wp_region_lit ?_
 revert aa
 refine qM hR ?_
 refine qA hR rfl (fun _ hS => Yld.nilCheck hS rfl) ?_
 refine qA hR rfl (fun _ hS => Yld.fieldAddr hS rfl 0 Tryz.underlying59 rfl rfl info57 (by decide)) ?_
 refine qA hR rfl (fun _ hS => Yld.fieldAddr hS rfl 2 Tryz.underlying57 rfl rfl info54 (by decide)) ?_
 refine qA hR rfl (fun _ hS => Yld.load1 hS rfl Tryz.underlying54 rfl rdQ) ?_
 refine qM hR ?_
 intro aa hS
 refine sB (Bcall hS rfl Tryz.call60 (lrOut_ok (i := (s : Int)) (hR.pk (r := lruA _ _ _ _ bo _ _ _ _) pkQ)) (by decide) ?_); clear hS; intro aa ww vv hS hp
 clear hR
 obtain ⟨rfl, hR⟩ := hp
 rw [(see_at (ord := D.ord) (tm := D.tm) (un := D.un) hs).2.2.2] at hR
 refine wpList_nil ?_
 refine hK723 _ _ ?_
 refine wp_seq_k ?_; intro K725 hK725
 refine wp_region_lit ?_
 revert aa
 refine qM hR ?_
 refine qN hR ?_
 intro aa hS
 refine wpList_nil ?_
 refine hK725 _ _ ?_
 refine wp_ret ?_
 repeat first | with_reducible refine thenR ?_ | with_reducible refine blockR ?_ | with_reducible refine scopeR ?_
 refine ret1 (fn := Tryz.f24) (e := .ret) (.inl rfl) Tryz.results24 hS hR ⟨_, (.tmp rfl), ?_⟩
 try dsimp only [lay, List.set] at hR
 exact ⟨rfl, Sep.deskI (t := dd) (b := b) (hR.sub exQ)⟩
theorem adClo_ok {t p u : Int} {S lim b : Nat} {l : List HP} {w : World} {D : Dk} (hD : DW S lim D) {a : Int} {s : Nat} (hm : (a, s) ∈ D.T.O) (hR : Sep (deskA dd b S lim (t, p, u) D :: l) w) : CallR Tryz.prog 25 [.pointer (some ⟨b, 0, none⟩), .int .i64 (s : Int)] w (fun v w' => v = .int .i64 0 ∧ Sep (deskA dd b S lim (t, p, u) (clsD D a s) :: l) w') := by
 refine enter Tryz.func25 rfl Tryz.ntmps25 (Nat.le_of_ble_eq_true rfl) ?_; intro aa hS
 obtain ⟨ba, bs, bo, r, c, hR⟩ := hR.deskE
 dsimp only at hR
 obtain ⟨hcl, hs, hq, v0, hv⟩ := clsE_of hD hm
 refine wp_seq_k ?_; intro K726 hK726
 refine wp_region_lit ?_
 revert aa
 refine qN hR ?_
 intro aa hS
 refine wpList_nil ?_
 refine hK726 _ _ ?_
 refine wp_seq_k ?_; intro K727 hK727
 refine wp_region_lit ?_
 revert aa
 refine qM hR ?_
 refine qM hR ?_
 intro aa hS
 refine sB (Bcall hS rfl Tryz.call38 (aderror_ok (x := (s : Int)) hD.at ((hR.pk (r := arena _ _ ba _) pkQ).pk (r := blk b _ 59) pkQ)) (by decide) ?_); clear hS; intro aa ww vv hS hp
 clear hR
 obtain ⟨rfl, hR⟩ := hp
 rw [hcl] at hS
 revert aa
 refine qN hR ?_
 intro aa hS
 refine wpList_nil ?_
 refine hK727 _ _ ?_
 refine wp_seq_k ?_; intro K728 hK728
 refine wp_seq_k ?_; intro K729 hK729
 refine wp_region_lit ?_
 revert aa
 refine qM hR ?_
 refine qA hR rfl (fun _ hS => Yld.eql hS rfl rfl) ?_
 refine qB (t := 10) true rfl (by rfl) ?_
 intro aa hS
 refine wpList_nil ?_
 refine hK729 _ _ ?_
 refine condT hS rfl ?_
 refine wp_region_lit ?_
 revert aa
 refine qM hR ?_
 refine qM hR ?_
 intro aa hS
 refine sB (Bcall hS rfl Tryz.call56 (adclose_ok hs hq hv ((((hR.pk (r := lruA _ _ _ _ bo _ _ _ _) pkQ).pk (r := sourceA _ bs _ _ _) pkQ).pk (r := arena _ _ ba _) pkQ).pk (r := blk b _ 59) pkQ)) (by decide) ?_); clear hS; intro aa ww vv hS hp
 clear hR
 obtain ⟨rfl, hR⟩ := hp
 refine wpList_nil ?_
 refine hK728 _ _ ?_
 refine wp_seq_k ?_; intro K730 hK730
 refine wp_region_lit ?_
 revert aa
 refine qM hR ?_
 refine qN hR ?_
 intro aa hS
 refine wpList_nil ?_
 refine hK730 _ _ ?_
 refine wp_ret ?_
 repeat first | with_reducible refine thenR ?_ | with_reducible refine blockR ?_ | with_reducible refine scopeR ?_
 refine ret1 (fn := Tryz.f25) (e := .ret) (.inl rfl) Tryz.results25 hS hR ⟨_, (.tmp rfl), ?_⟩
 try dsimp only [lay, List.set] at hR
 exact ⟨rfl, Sep.deskI (t := dd) (b := b) (hR.sub exQ)⟩
theorem adSee_ok {t p u : Int} {S lim b : Nat} {l : List HP} {w : World} {D : Dk} (hD : DW S lim D) (hun : D.un ≤ 4611686018427387904) {x : Int} (hR : Sep (deskA dd b S lim (t, p, u) D :: l) w) : CallR Tryz.prog 23 [.pointer (some ⟨b, 0, none⟩), .int .i64 x] w (fun v w' => v = .int .i64 (clsE S D.T x) ∧ Sep (deskA dd b S lim (t, p, u) (seeN' S D x) :: l) w') := by
 by_cases hz : clsE S D.T x = 0
 ·
  obtain ⟨s, a, rfl, hm⟩ := clsE_nat hD hz
  unfold seeN'
  by_cases hso : s ∈ D.ord
  ·
   rw [if_pos ⟨hz, by rw [Int.toNat_natCast]; exact hso⟩, hz, Int.toNat_natCast]; exact adSee_un hD hm hso hun hR
  ·
   rw [if_neg (fun c => hso (by have := c.2; rwa [Int.toNat_natCast] at this)), hz]; exact adSee_ass hD hm hso hR
 ·
  unfold seeN'; rw [if_neg (fun c => hz c.1)]; exact adSee_bad hD hz hR
theorem adAssure_ok {t p u : Int} {S lim b : Nat} {l : List HP} {w : World} {D : Dk} (hD : DW S lim D) {x : Int} (hR : Sep (deskA dd b S lim (t, p, u) D :: l) w) : CallR Tryz.prog 24 [.pointer (some ⟨b, 0, none⟩), .int .i64 x] w (fun v w' => v = .int .i64 (clsE S D.T x) ∧ Sep (deskA dd b S lim (t, p, u) (assN S D x) :: l) w') := by
 by_cases hz : clsE S D.T x = 0
 ·
  obtain ⟨s, a, rfl, hm⟩ := clsE_nat hD hz
  unfold assN
  rw [if_pos hz, hz, Int.toNat_natCast]; exact adAss_ok hD hm hR
 ·
  unfold assN; rw [if_neg hz]; exact adAss_bad hD hz hR
theorem adClose_ok {t p u : Int} {S lim b : Nat} {l : List HP} {w : World} {D : Dk} (hD : DW S lim D) {x : Int} (hR : Sep (deskA dd b S lim (t, p, u) D :: l) w) : CallR Tryz.prog 25 [.pointer (some ⟨b, 0, none⟩), .int .i64 x] w (fun v w' => v = .int .i64 (clsE S D.T x) ∧ Sep (deskA dd b S lim (t, p, u) (cloN D x) :: l) w') := by
 by_cases hz : clsE S D.T x = 0
 ·
  obtain ⟨s, a, rfl, hm⟩ := clsE_nat hD hz
  unfold cloN
  rw [ofO_of hD.sf.nds hm, hz]; dsimp only
  rw [Int.toNat_natCast]; exact adClo_ok hD hm hR
 ·
  have hn : ofO D.T.O x = none := by
   cases hv : ofO D.T.O x with
   | none => rfl
   | some b =>
    obtain ⟨s, rfl, hm⟩ := ofO_in hv
    exact absurd (clsE_of hD hm).1 hz
  unfold cloN; rw [hn]; exact adClo_bad hD hz hR
end Go.Proofs.YtkhdejjompbklaaGreat.Sx
