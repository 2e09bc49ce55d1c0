/-
 
-/
import Derived.Test.YtkhdejjompbklaaKAdA
import Derived.Test.YtkhdejjompbklaaKPz
namespace Go.Proofs.Ytkhdejjompbklaa.Sx
open Go
set_option maxRecDepth 20000
set_option linter.unusedVariables false
set_option linter.unusedSimpArgs false
theorem adNow_ok {t p u : Int} {S lim b : Nat} {l : List HP} {w : World} {D : Dk} (hR : Sep (deskA dd b S lim (t, p, u) D :: l) w) : CallR Try.prog 13 [.pointer (some ⟨b, 0, none⟩)] w (fun v w' => v = .int .i64 D.now ∧ Sep (deskA dd b S lim (t, p, u) D :: l) w') := by
 refine enter Try.func13 rfl Try.ntmps13 (Nat.le_of_ble_eq_true rfl) ?_; intro aa hS
 obtain ⟨ba, bs, bo, r, c, hR⟩ := hR.deskE
 dsimp only at hR
 refine wp_seq_k ?_; intro K608 hK608
 refine wp_region_lit ?_
 revert aa
 refine qN hR ?_
 intro aa hS
 refine wpList_nil ?_
 refine hK608 _ _ ?_
 refine wp_seq_k ?_; intro K609 hK609
 refine wp_seq_k ?_; intro K610 hK610
 refine wp_region_lit ?_
 revert aa
 refine qM hR ?_
 intro aa hS
 refine sB (Bcall hS rfl Try.call28 (adnone_ok (hR.pk (r := blk b _ 77) pkQ)) (by decide) ?_); clear hS; intro aa ww vv hS hp
 clear hR
 obtain ⟨rfl, hR⟩ := hp
 refine wpList_nil ?_
 refine hK610 _ _ ?_
 refine condF hS rfl ?_
 refine wp_skip ?_
 refine hK609 _ _ ?_
 refine wp_seq_k ?_; intro K611 hK611
 refine wp_region_lit ?_
 revert aa
 refine qM hR ?_
 refine qA hR rfl (fun _ hS => Yld.nilCheck hS rfl) ?_
 refine qA hR rfl (fun _ hS => Yld.fieldAddr hS rfl 9 Try.underlying77 rfl rfl info3 (by decide)) ?_
 refine qA hR rfl (fun _ hS => Yld.load1 hS rfl Try.underlying3 rfl rdQ) ?_
 refine qN hR ?_
 intro aa hS
 refine wpList_nil ?_
 refine hK611 _ _ ?_
 refine wp_ret ?_
 repeat first | with_reducible refine thenR ?_ | with_reducible refine blockR ?_ | with_reducible refine scopeR ?_
 refine ret1 (fn := Try.f13) (e := .ret) (.inl rfl) Try.results13 hS hR ⟨_, (.tmp rfl), ?_⟩
 try dsimp only [lay, List.set] at hR
 exact ⟨rfl, Sep.deskI (t := dd) (b := b) (hR.sub exQ)⟩
theorem adLen_ok {t p u : Int} {S lim b : Nat} {l : List HP} {w : World} {D : Dk} (hD : DW S lim D) (hR : Sep (deskA dd b S lim (t, p, u) D :: l) w) : CallR Try.prog 19 [.pointer (some ⟨b, 0, none⟩)] w (fun v w' => v = .int .i64 (D.T.O.length : Int) ∧ Sep (deskA dd b S lim (t, p, u) D :: l) w') := by
 refine enter Try.func19 rfl Try.ntmps19 (Nat.le_of_ble_eq_true rfl) ?_; intro aa hS
 obtain ⟨ba, bs, bo, r, c, hR⟩ := hR.deskE
 dsimp only at hR
 refine wp_seq_k ?_; intro K612 hK612
 refine wp_region_lit ?_
 revert aa
 refine qN hR ?_
 intro aa hS
 refine wpList_nil ?_
 refine hK612 _ _ ?_
 refine wp_seq_k ?_; intro K613 hK613
 refine wp_seq_k ?_; intro K614 hK614
 refine wp_region_lit ?_
 revert aa
 refine qM hR ?_
 intro aa hS
 refine sB (Bcall hS rfl Try.call28 (adnone_ok (hR.pk (r := blk b _ 77) pkQ)) (by decide) ?_); clear hS; intro aa ww vv hS hp
 clear hR
 obtain ⟨rfl, hR⟩ := hp
 refine wpList_nil ?_
 refine hK614 _ _ ?_
 refine condF hS rfl ?_
 refine wp_skip ?_
 refine hK613 _ _ ?_
 refine wp_seq_k ?_; intro K615 hK615
 refine wp_region_lit ?_
 revert aa
 refine qM hR ?_
 refine qA hR rfl (fun _ hS => Yld.nilCheck hS rfl) ?_
 refine qA hR rfl (fun _ hS => Yld.fieldAddr hS rfl 0 Try.underlying77 rfl rfl info75 (by decide)) ?_
 refine qA hR rfl (fun _ hS => Yld.fieldAddr hS rfl 0 Try.underlying75 rfl rfl info70 (by decide)) ?_
 refine qA hR rfl (fun _ hS => Yld.load1 hS rfl Try.underlying70 rfl rdQ) ?_
 intro aa hS
 refine sB (Bcall hS rfl Try.call32 (Count_okA (hR.pk (r := arena _ _ ba _) pkQ)) (by decide) ?_); clear hS; intro aa ww vv hS hp
 clear hR
 obtain ⟨rfl, hR⟩ := hp
 rw [hD.cnt] at hS
 revert aa
 refine qN hR ?_
 intro aa hS
 refine wpList_nil ?_
 refine hK615 _ _ ?_
 refine wp_ret ?_
 repeat first | with_reducible refine thenR ?_ | with_reducible refine blockR ?_ | with_reducible refine scopeR ?_
 refine ret1 (fn := Try.f19) (e := .ret) (.inl rfl) Try.results19 hS hR ⟨_, (.tmp rfl), ?_⟩
 try dsimp only [lay, List.set] at hR
 exact ⟨rfl, Sep.deskI (t := dd) (b := b) (hR.sub exQ)⟩
theorem adCount_ok {t p u : Int} {S lim b : Nat} {l : List HP} {w : World} {D : Dk} {a : Int} (ha : 0 ≤ a ∧ a ≤ 4294967295) (hR : Sep (deskA dd b S lim (t, p, u) D :: l) w) : CallR Try.prog 11 [.pointer (some ⟨b, 0, none⟩), .int .u32 a] w (fun v w' => v = .int .i64 ((slO D.T.O a).length : Int) ∧ Sep (deskA dd b S lim (t, p, u) D :: l) w') := by
 refine enter Try.func11 rfl Try.ntmps11 (Nat.le_of_ble_eq_true rfl) ?_; intro aa hS
 obtain ⟨ba, bs, bo, r, c, hR⟩ := hR.deskE
 dsimp only at hR
 refine wp_seq_k ?_; intro K616 hK616
 refine wp_region_lit ?_
 revert aa
 refine qN hR ?_
 intro aa hS
 refine wpList_nil ?_
 refine hK616 _ _ ?_
 refine wp_seq_k ?_; intro K617 hK617
 refine wp_seq_k ?_; intro K618 hK618
 refine wp_region_lit ?_
 revert aa
 refine qM hR ?_
 intro aa hS
 refine sB (Bcall hS rfl Try.call28 (adnone_ok (hR.pk (r := blk b _ 77) pkQ)) (by decide) ?_); clear hS; intro aa ww vv hS hp
 clear hR
 obtain ⟨rfl, hR⟩ := hp
 refine wpList_nil ?_
 refine hK618 _ _ ?_
 refine condF hS rfl ?_
 refine wp_skip ?_
 refine hK617 _ _ ?_
 refine wp_seq_k ?_; intro K619 hK619
 refine wp_region_lit ?_
 revert aa
 refine qM hR ?_
 refine qA hR rfl (fun _ hS => Yld.nilCheck hS rfl) ?_
 refine qA hR rfl (fun _ hS => Yld.fieldAddr hS rfl 0 Try.underlying77 rfl rfl info75 (by decide)) ?_
 refine qA hR rfl (fun _ hS => Yld.fieldAddr hS rfl 1 Try.underlying75 rfl rfl info71 (by decide)) ?_
 refine qA hR rfl (fun _ hS => Yld.load1 hS rfl Try.underlying71 rfl rdQ) ?_
 refine qM hR ?_
 intro aa hS
 refine sB (Bcall hS rfl Try.call31 (soCount_ok ha (hR.pk (r := sourceA _ bs _ _ _) pkQ)) (by decide) ?_); clear hS; intro aa ww vv hS hp
 clear hR
 obtain ⟨rfl, hR⟩ := hp
 revert aa
 refine qN hR ?_
 intro aa hS
 refine wpList_nil ?_
 refine hK619 _ _ ?_
 refine wp_ret ?_
 repeat first | with_reducible refine thenR ?_ | with_reducible refine blockR ?_ | with_reducible refine scopeR ?_
 refine ret1 (fn := Try.f11) (e := .ret) (.inl rfl) Try.results11 hS hR ⟨_, (.tmp rfl), ?_⟩
 try dsimp only [lay, List.set] at hR
 exact ⟨rfl, Sep.deskI (t := dd) (b := b) (hR.sub exQ)⟩
theorem adSlots_ok {t p u : Int} {S lim b : Nat} {l : List HP} {w : World} {D : Dk} {a : Int} (ha : 0 ≤ a ∧ a ≤ 4294967295) (hR : Sep (deskA dd b S lim (t, p, u) D :: l) w) : CallR Try.prog 14 [.pointer (some ⟨b, 0, none⟩), .int .u32 a] w (fun v w' => ∃ r c, v = .slice r (cst (slO D.T.O a)).length c ∧ Sep (sls r (cst (slO D.T.O a)).length c 3 1 ((cst (slO D.T.O a)).flatMap e1) :: deskA dd b S lim (t, p, u) D :: l) w') := by
 refine enter Try.func14 rfl Try.ntmps14 (Nat.le_of_ble_eq_true rfl) ?_; intro aa hS
 obtain ⟨ba, bs, bo, r, c, hR⟩ := hR.deskE
 dsimp only at hR
 refine wp_seq_k ?_; intro K620 hK620
 refine wp_region_lit ?_
 revert aa
 refine qN hR ?_
 intro aa hS
 refine wpList_nil ?_
 refine hK620 _ _ ?_
 refine wp_seq_k ?_; intro K621 hK621
 refine wp_seq_k ?_; intro K622 hK622
 refine wp_region_lit ?_
 revert aa
 refine qM hR ?_
 intro aa hS
 refine sB (Bcall hS rfl Try.call28 (adnone_ok (hR.pk (r := blk b _ 77) pkQ)) (by decide) ?_); clear hS; intro aa ww vv hS hp
 clear hR
 obtain ⟨rfl, hR⟩ := hp
 refine wpList_nil ?_
 refine hK622 _ _ ?_
 refine condF hS rfl ?_
 refine wp_skip ?_
 refine hK621 _ _ ?_
 refine wp_seq_k ?_; intro K623 hK623
 refine wp_region_lit ?_
 revert aa
 refine qM hR ?_
 refine qA hR rfl (fun _ hS => Yld.nilCheck hS rfl) ?_
 refine qA hR rfl (fun _ hS => Yld.fieldAddr hS rfl 0 Try.underlying77 rfl rfl info75 (by decide)) ?_
 refine qA hR rfl (fun _ hS => Yld.fieldAddr hS rfl 1 Try.underlying75 rfl rfl info71 (by decide)) ?_
 refine qA hR rfl (fun _ hS => Yld.load1 hS rfl Try.underlying71 rfl rdQ) ?_
 refine qM hR ?_
 intro aa hS
 refine sB (Bcall hS rfl Try.call43 (soSlots_ok ha (hR.pk (r := sourceA _ bs _ _ _) pkQ)) (by decide) ?_); clear hS; intro aa ww vv hS hp
 clear hR
 obtain ⟨rz, cz, rfl, hR⟩ := hp
 revert aa
 refine qN hR ?_
 intro aa hS
 refine wpList_nil ?_
 refine hK623 _ _ ?_
 refine wp_ret ?_
 repeat first | with_reducible refine thenR ?_ | with_reducible refine blockR ?_ | with_reducible refine scopeR ?_
 refine ret1 (fn := Try.f14) (e := .ret) (.inl rfl) Try.results14 hS hR ⟨_, (.tmp rfl), ?_⟩
 replace hR := Sep.deskI (t := dd) (b := b) (hR.sub exQ : Sep (_ :: _ :: _ :: _ :: _ :: sls rz _ cz 3 1 _ :: l) _)
 exact ⟨rz, cz, rfl, (hR.sub exQ)⟩
theorem adUnassured_ok {t p u : Int} {S lim b : Nat} {l : List HP} {w : World} {D : Dk} (hR : Sep (deskA dd b S lim (t, p, u) D :: l) w) : CallR Try.prog 18 [.pointer (some ⟨b, 0, none⟩)] w (fun v w' => ∃ r c, v = .slice r (cst D.ord).length c ∧ Sep (sls r (cst D.ord).length c 3 1 ((cst D.ord).flatMap e1) :: deskA dd b S lim (t, p, u) D :: l) w') := by
 refine enter Try.func18 rfl Try.ntmps18 (Nat.le_of_ble_eq_true rfl) ?_; intro aa hS
 obtain ⟨ba, bs, bo, r, c, hR⟩ := hR.deskE
 dsimp only at hR
 refine wp_seq_k ?_; intro K624 hK624
 refine wp_region_lit ?_
 revert aa
 refine qN hR ?_
 intro aa hS
 refine wpList_nil ?_
 refine hK624 _ _ ?_
 refine wp_seq_k ?_; intro K625 hK625
 refine wp_seq_k ?_; intro K626 hK626
 refine wp_region_lit ?_
 revert aa
 refine qM hR ?_
 intro aa hS
 refine sB (Bcall hS rfl Try.call28 (adnone_ok (hR.pk (r := blk b _ 77) pkQ)) (by decide) ?_); clear hS; intro aa ww vv hS hp
 clear hR
 obtain ⟨rfl, hR⟩ := hp
 refine wpList_nil ?_
 refine hK626 _ _ ?_
 refine condF hS rfl ?_
 refine wp_skip ?_
 refine hK625 _ _ ?_
 refine wp_seq_k ?_; intro K627 hK627
 refine wp_region_lit ?_
 revert aa
 refine qM hR ?_
 refine qA hR rfl (fun _ hS => Yld.nilCheck hS rfl) ?_
 refine qA hR rfl (fun _ hS => Yld.fieldAddr hS rfl 0 Try.underlying77 rfl rfl info75 (by decide)) ?_
 refine qA hR rfl (fun _ hS => Yld.fieldAddr hS rfl 2 Try.underlying75 rfl rfl info72 (by decide)) ?_
 refine qA hR rfl (fun _ hS => Yld.load1 hS rfl Try.underlying72 rfl rdQ) ?_
 intro aa hS
 refine sB (Bcall hS rfl Try.call49 (lrAll_ok (hR.pk (r := lruA _ _ _ _ bo _ _ _ _) pkQ)) (by decide) ?_); clear hS; intro aa ww vv hS hp
 clear hR
 obtain ⟨rz, cz, rfl, hR⟩ := hp
 revert aa
 refine qN hR ?_
 intro aa hS
 refine wpList_nil ?_
 refine hK627 _ _ ?_
 refine wp_ret ?_
 repeat first | with_reducible refine thenR ?_ | with_reducible refine blockR ?_ | with_reducible refine scopeR ?_
 refine ret1 (fn := Try.f18) (e := .ret) (.inl rfl) Try.results18 hS hR ⟨_, (.tmp rfl), ?_⟩
 replace hR := Sep.deskI (t := dd) (b := b) (hR.sub exQ : Sep (_ :: _ :: _ :: _ :: _ :: sls rz _ cz 3 1 _ :: l) _)
 exact ⟨rz, cz, rfl, (hR.sub exQ)⟩
theorem adOf_ok {t p u : Int} {S lim b : Nat} {l : List HP} {w : World} {D : Dk} {x : Int} (hR : Sep (deskA dd b S lim (t, p, u) D :: l) w) : CallR Try.prog 23 [.pointer (some ⟨b, 0, none⟩), .int .i64 x] w (fun v w' => v = .tuple [.int .u32 ((ofO D.T.O x).getD 0), .bool (ofO D.T.O x).isSome].toArray ∧ Sep (deskA dd b S lim (t, p, u) D :: l) w') := by
 refine enter Try.func23 rfl Try.ntmps23 (Nat.le_of_ble_eq_true rfl) ?_; intro aa hS
 obtain ⟨ba, bs, bo, r, c, hR⟩ := hR.deskE
 dsimp only at hR
 refine wp_seq_k ?_; intro K628 hK628
 refine wp_region_lit ?_
 revert aa
 refine qN hR ?_
 refine qN hR ?_
 intro aa hS
 refine wpList_nil ?_
 refine hK628 _ _ ?_
 refine wp_seq_k ?_; intro K629 hK629
 refine wp_seq_k ?_; intro K630 hK630
 refine wp_region_lit ?_
 revert aa
 refine qM hR ?_
 intro aa hS
 refine sB (Bcall hS rfl Try.call28 (adnone_ok (hR.pk (r := blk b _ 77) pkQ)) (by decide) ?_); clear hS; intro aa ww vv hS hp
 clear hR
 obtain ⟨rfl, hR⟩ := hp
 refine wpList_nil ?_
 refine hK630 _ _ ?_
 refine condF hS rfl ?_
 refine wp_skip ?_
 refine hK629 _ _ ?_
 refine wp_seq_k ?_; intro K631 hK631
 refine wp_region_lit ?_
 revert aa
 refine qM hR ?_
 refine qA hR rfl (fun _ hS => Yld.nilCheck hS rfl) ?_
 refine qA hR rfl (fun _ hS => Yld.fieldAddr hS rfl 0 Try.underlying77 rfl rfl info75 (by decide)) ?_
 refine qA hR rfl (fun _ hS => Yld.fieldAddr hS rfl 1 Try.underlying75 rfl rfl info71 (by decide)) ?_
 refine qA hR rfl (fun _ hS => Yld.load1 hS rfl Try.underlying71 rfl rdQ) ?_
 refine qM hR ?_
 intro aa hS
 refine sB (Bcall hS rfl Try.call52 (soOf_ok (x := x) (hR.pk (r := sourceA _ bs _ _ _) pkQ)) (by decide) ?_); clear hS; intro aa ww vv hS hp
 clear hR
 obtain ⟨rfl, hR⟩ := hp
 revert aa
 refine qX hR ?_
 refine qX hR ?_
 refine qN hR ?_
 refine qN hR ?_
 intro aa hS
 refine wpList_nil ?_
 refine hK631 _ _ ?_
 refine wp_ret ?_
 repeat first | with_reducible refine thenR ?_ | with_reducible refine blockR ?_ | with_reducible refine scopeR ?_
 refine retN (fn := Try.f23) (e := .ret) (.inl rfl) Try.results23 hS hR ⟨_, .cons (.tmp rfl) (.cons (.tmp rfl) (.nil)), rfl, ?_⟩
 try dsimp only [lay, List.set] at hR
 exact ⟨rfl, Sep.deskI (t := dd) (b := b) (hR.sub exQ)⟩
theorem adAssured_ok {t p u : Int} {S lim b : Nat} {l : List HP} {w : World} {D : Dk} (hD : DW S lim D) {x : Int} (hR : Sep (deskA dd b S lim (t, p, u) D :: l) w) : CallR Try.prog 24 [.pointer (some ⟨b, 0, none⟩), .int .i64 x] w (fun v w' => v = .bool (asD S D x) ∧ Sep (deskA dd b S lim (t, p, u) D :: l) w') := by
 refine enter Try.func24 rfl Try.ntmps24 (Nat.le_of_ble_eq_true rfl) ?_; intro aa hS
 obtain ⟨ba, bs, bo, r, c, hR⟩ := hR.deskE
 dsimp only at hR
 refine wp_seq_k ?_; intro K632 hK632
 refine wp_region_lit ?_
 revert aa
 refine qN hR ?_
 intro aa hS
 refine wpList_nil ?_
 refine hK632 _ _ ?_
 refine wp_seq_k ?_; intro K633 hK633
 refine wp_seq_k ?_; intro K634 hK634
 refine wp_region_lit ?_
 revert aa
 refine qM hR ?_
 refine qM hR ?_
 intro aa hS
 refine sB (Bcall hS rfl Try.call44 (aderror_ok (x := x) hD.at ((hR.pk (r := arena _ _ ba _) pkQ).pk (r := blk b _ 77) pkQ)) (by decide) ?_); clear hS; intro aa ww vv hS hp
 clear hR
 obtain ⟨rfl, hR⟩ := hp
 refine sA hS hR (Yld.neq hS rfl rfl) (by decide) ?_; clear hS; intro aa hS
 refine wpList_nil ?_
 refine hK634 _ _ ?_
 refine hS.splitB (t := 10) rfl ?_ ?_ <;> clear hS
 ·
  intro hg hS
  have hz : ¬ clsE S D.T x = 0 := by simpa using hg
  refine condT hS rfl ?_
  refine wp_seq_k ?_; intro K635 hK635
  refine wp_region_lit ?_
  revert aa
  refine qN hR ?_
  intro aa hS
  refine wpList_nil ?_
  refine hK635 _ _ ?_
  refine wp_ret ?_
  repeat first | with_reducible refine thenR ?_ | with_reducible refine blockR ?_ | with_reducible refine scopeR ?_
  refine ret1 (fn := Try.f24) (e := .ret) (.inl rfl) Try.results24 hS hR ⟨_, (.tmp rfl), ?_⟩
  refine ⟨?_, Sep.deskI (t := dd) (b := b) (hR.sub exQ)⟩
  unfold asD
  rw [decide_eq_false hz]; rfl
 ·
  intro hg hS
  have hz : clsE S D.T x = 0 := by simpa using hg
  refine condF hS rfl ?_
  refine wp_skip ?_
  refine hK633 _ _ ?_
  refine wp_seq_k ?_; intro K636 hK636
  refine wp_region_lit ?_
  revert aa
  refine qM hR ?_
  refine qA hR rfl (fun _ hS => Yld.nilCheck hS rfl) ?_
  refine qA hR rfl (fun _ hS => Yld.fieldAddr hS rfl 0 Try.underlying77 rfl rfl info75 (by decide)) ?_
  refine qA hR rfl (fun _ hS => Yld.fieldAddr hS rfl 2 Try.underlying75 rfl rfl info72 (by decide)) ?_
  refine qA hR rfl (fun _ hS => Yld.load1 hS rfl Try.underlying72 rfl rdQ) ?_
  refine qM hR ?_
  intro aa hS
  refine sB (Bcall hS rfl Try.call53 (lrWhen_ok (i := x) (hR.pk (r := lruA _ _ _ _ bo _ _ _ _) pkQ)) (by decide) ?_); clear hS; intro aa ww vv hS hp
  clear hR
  obtain ⟨rfl, hR⟩ := hp
  rw [when_at (clsE_in hz).1] at hS
  revert aa
  refine qM hR ?_
  refine qX hR ?_
  refine qX hR ?_
  refine qN hR ?_
  refine qN hR ?_
  intro aa hS
  refine wpList_nil ?_
  refine hK636 _ _ ?_
  refine wp_seq_k ?_; intro K637 hK637
  refine wp_region_lit ?_
  revert aa
  refine qM hR ?_
  refine qA hR rfl (fun _ hS => Yld.not hS rfl) ?_
  refine qN hR ?_
  intro aa hS
  refine wpList_nil ?_
  refine hK637 _ _ ?_
  refine wp_ret ?_
  repeat first | with_reducible refine thenR ?_ | with_reducible refine blockR ?_ | with_reducible refine scopeR ?_
  refine ret1 (fn := Try.f24) (e := .ret) (.inl rfl) Try.results24 hS hR ⟨_, (.tmp rfl), ?_⟩
  refine ⟨?_, Sep.deskI (t := dd) (b := b) (hR.sub exQ)⟩
  unfold asD
  rw [decide_eq_true hz]; rfl
theorem adTokens_ok {t p u : Int} {S lim b : Nat} {l : List HP} {w : World} {D : Dk} (hD : DKF S lim t p u D) {a : Int} (ha : 0 ≤ a ∧ a ≤ 4294967295) (hR : Sep (deskA dd b S lim (t, p, u) D :: l) w) : CallR Try.prog 10 [.pointer (some ⟨b, 0, none⟩), .int .u32 a] w (fun v w' => v = .int .i64 (bkD t p u D.T D.B a D.now / p) ∧ Sep (deskA dd b S lim (t, p, u) D :: l) w') := by
 refine enter Try.func10 rfl Try.ntmps10 (Nat.le_of_ble_eq_true rfl) ?_; intro aa hS
 obtain ⟨ba, bs, bo, r, c, hR⟩ := hR.deskE
 dsimp only at hR
 have hn : D.now ≤ D.now ∧ D.now ≤ 1099511627776 := ⟨Int.le_refl _, hD.w.now.2⟩
 have hRB := hD.bk (a := a) hn
 refine wp_seq_k ?_; intro K638 hK638
 refine wp_region_lit ?_
 revert aa
 refine qN hR ?_
 intro aa hS
 refine wpList_nil ?_
 refine hK638 _ _ ?_
 refine wp_seq_k ?_; intro K639 hK639
 refine wp_seq_k ?_; intro K640 hK640
 refine wp_region_lit ?_
 revert aa
 refine qM hR ?_
 intro aa hS
 refine sB (Bcall hS rfl Try.call28 (adnone_ok (hR.pk (r := blk b _ 77) pkQ)) (by decide) ?_); clear hS; intro aa ww vv hS hp
 clear hR
 obtain ⟨rfl, hR⟩ := hp
 refine wpList_nil ?_
 refine hK640 _ _ ?_
 refine condF hS rfl ?_
 refine wp_skip ?_
 refine hK639 _ _ ?_
 refine wp_seq_k ?_; intro K641 hK641
 refine drawn krQ hR Ex.refl ?_; clear hR; intro ww hR hR0
 revert aa
 refine eA 0 rfl krQ (fun _ _ _ h => h) hR0 rfl (fun _ hS => Yld.move hS rfl) ?_
 refine eA 1 rfl krQ (fun _ _ _ h => h) hR0 rfl (fun _ hS => Yld.nilCheck hS rfl) ?_
 refine eA 2 rfl krQ (fun _ _ _ h => h) hR0 rfl (fun _ hS => Yld.fieldAddr hS rfl 4 Try.underlying77 rfl rfl info31 (by decide)) ?_
 refine eA 3 rfl krQ (fun _ _ _ h => h) hR0 rfl (fun _ hS => Yld.fieldAddr hS rfl 2 Try.underlying31 rfl rfl info29 (by decide)) ?_
 intro aa hS
 refine dA 4 rfl krQ krQ krQ (fun _ _ _ h => h) hS hR0 (Yld.loadAgg hS rfl Try.underlying29 rfl info29 rdsQ3 (by rfl)) (by decide) ?_; clear hS; intro aa hS
 revert aa
 refine eA 5 rfl krQ (fun _ _ _ h => h) hR0 rfl (fun _ hS => Yld.move hS rfl) ?_
 refine eA 6 rfl krQ (fun _ _ _ h => h) hR0 rfl (fun _ hS => Yld.move hS rfl) ?_
 refine eA 7 rfl krQ (fun _ _ _ h => h) hR0 rfl (fun _ hS => Yld.move hS rfl) ?_
 refine eA 8 rfl krQ (fun _ _ _ h => h) hR0 rfl (fun _ hS => Yld.nilCheck hS rfl) ?_
 refine eA 9 rfl krQ (fun _ _ _ h => h) hR0 rfl (fun _ hS => Yld.fieldAddr hS rfl 9 Try.underlying77 rfl rfl info3 (by decide)) ?_
 refine eA 10 rfl krQ (fun _ _ _ h => h) hR0 rfl (fun _ hS => Yld.load1 hS rfl Try.underlying3 rfl rdQ) ?_
 refine eA 12 rfl krQ (fun _ _ _ h => h) hR0 rfl (fun _ hS => Yld.move hS rfl) ?_
 refine eA 13 rfl krQ (fun _ _ _ h => h) hR0 rfl (fun _ hS => Yld.nilCheck hS rfl) ?_
 refine eA 14 rfl krQ (fun _ _ _ h => h) hR0 rfl (fun _ hS => Yld.fieldAddr hS rfl 9 Try.underlying77 rfl rfl info3 (by decide)) ?_
 refine eA 15 rfl krQ (fun _ _ _ h => h) hR0 rfl (fun _ hS => Yld.load1 hS rfl Try.underlying3 rfl rdQ) ?_
 intro aa hS
 refine dOne (i := 11) krQ ?_
 refine dop rfl (Bcall hS rfl Try.call30 (adbucket_ok ha hD.rr hD.w.now hD.w.blen (fun q hq => hD.got hn hq) (((hR.pk (r := sls r _ _ _ _ _) pkQ).pk (r := sourceA _ bs _ _ _) pkQ).pk (r := blk b _ 77) pkQ)) (by decide) ?_); clear hS; intro aa ww vv hS hp
 clear hR hR0
 obtain ⟨rfl, hR⟩ := hp
 refine dnext (hR.sub exQ) ?_; intro hR0
 refine dOne (i := 16) krQ ?_
 refine dop rfl (Bcall hS rfl Try.call29 (bkTokens_ok hR) (by decide) ?_); clear hS; intro aa ww vv hS hp
 clear hR hR0
 obtain ⟨rfl, hR⟩ := hp
 rw [tok1 hRB] at hS; dsimp only at hS
 refine dnext (hR.sub exQ) ?_; intro hR0
 revert aa
 refine eA 17 rfl krQ (fun _ _ _ h => h) hR0 rfl (fun _ hS => Yld.move hS rfl) ?_
 refine eA 18 rfl krQ (fun _ _ _ h => h) hR0 rfl (fun _ hS => Yld.extract hS rfl rfl) ?_
 refine eA 19 rfl krQ (fun _ _ _ h => h) hR0 rfl (fun _ hS => Yld.extract hS rfl rfl) ?_
 refine eA 20 rfl krQ (fun _ _ _ h => h) hR0 rfl (fun _ hS => Yld.assign hS rfl) ?_
 refine eA 21 rfl krQ (fun _ _ _ h => h) hR0 rfl (fun _ hS => Yld.assign hS rfl) ?_
 intro aa hS
 refine wpAnyH_done krQ ?_ _; clear hR0
 refine hK641 _ _ ?_
 refine wp_seq_k ?_; intro K642 hK642
 refine wp_region_lit ?_
 revert aa
 refine qM hR ?_
 refine qN hR ?_
 intro aa hS
 refine wpList_nil ?_
 refine hK642 _ _ ?_
 refine wp_ret ?_
 repeat first | with_reducible refine thenR ?_ | with_reducible refine blockR ?_ | with_reducible refine scopeR ?_
 refine ret1 (fn := Try.f10) (e := .ret) (.inl rfl) Try.results10 hS hR ⟨_, (.tmp rfl), ?_⟩
 try dsimp only [lay, List.set] at hR
 exact ⟨rfl, Sep.deskI (t := dd) (b := b) (hR.sub exQ)⟩
theorem adSee_bad {t p u : Int} {S lim b : Nat} {l : List HP} {w : World} {D : Dk} (hD : DW S lim D) {x : Int} (hz : ¬ clsE S D.T x = 0) (hR : Sep (deskA dd b S lim (t, p, u) D :: l) w) : CallR Try.prog 25 [.pointer (some ⟨b, 0, none⟩), .int .i64 x] w (fun v w' => v = .int .i64 (clsE S D.T x) ∧ Sep (deskA dd b S lim (t, p, u) D :: l) w') := by
 refine enter Try.func25 rfl Try.ntmps25 (Nat.le_of_ble_eq_true rfl) ?_; intro aa hS
 obtain ⟨ba, bs, bo, r, c, hR⟩ := hR.deskE
 dsimp only at hR
 refine wp_seq_k ?_; intro K643 hK643
 refine wp_region_lit ?_
 revert aa
 refine qN hR ?_
 intro aa hS
 refine wpList_nil ?_
 refine hK643 _ _ ?_
 refine wp_seq_k ?_; intro K644 hK644
 refine wp_region_lit ?_
 revert aa
 refine qM hR ?_
 refine qM hR ?_
 intro aa hS
 refine sB (Bcall hS rfl Try.call44 (aderror_ok (x := x) hD.at ((hR.pk (r := arena _ _ ba _) pkQ).pk (r := blk b _ 77) pkQ)) (by decide) ?_); clear hS; intro aa ww vv hS hp
 clear hR
 obtain ⟨rfl, hR⟩ := hp
 revert aa
 refine qN hR ?_
 intro aa hS
 refine wpList_nil ?_
 refine hK644 _ _ ?_
 refine wp_seq_k ?_; intro K645 hK645
 refine wp_seq_k ?_; intro K646 hK646
 refine wp_region_lit ?_
 revert aa
 refine qM hR ?_
 refine qA hR rfl (fun _ hS => Yld.eql hS rfl rfl) ?_
 refine qB (t := 10) false rfl (by exact decide_eq_false hz) ?_
 refine qM hR ?_
 refine qZ ?_
 refine qZ ?_
 refine qZ ?_
 refine qZ ?_
 refine qA hR rfl (fun _ hS => Yld.pickF hS rfl rfl) ?_
 intro aa hS
 refine wpList_nil ?_
 refine hK646 _ _ ?_
 refine condF hS rfl ?_
 refine wp_skip ?_
 refine hK645 _ _ ?_
 refine wp_seq_k ?_; intro K647 hK647
 refine wp_region_lit ?_
 revert aa
 refine qM hR ?_
 refine qN hR ?_
 intro aa hS
 refine wpList_nil ?_
 refine hK647 _ _ ?_
 refine wp_ret ?_
 repeat first | with_reducible refine thenR ?_ | with_reducible refine blockR ?_ | with_reducible refine scopeR ?_
 refine ret1 (fn := Try.f25) (e := .ret) (.inl rfl) Try.results25 hS hR ⟨_, (.tmp rfl), ?_⟩
 try dsimp only [lay, List.set] at hR
 exact ⟨rfl, Sep.deskI (t := dd) (b := b) (hR.sub exQ)⟩
theorem adAss_bad {t p u : Int} {S lim b : Nat} {l : List HP} {w : World} {D : Dk} (hD : DW S lim D) {x : Int} (hz : ¬ clsE S D.T x = 0) (hR : Sep (deskA dd b S lim (t, p, u) D :: l) w) : CallR Try.prog 22 [.pointer (some ⟨b, 0, none⟩), .int .i64 x] w (fun v w' => v = .int .i64 (clsE S D.T x) ∧ Sep (deskA dd b S lim (t, p, u) D :: l) w') := by
 refine enter Try.func22 rfl Try.ntmps22 (Nat.le_of_ble_eq_true rfl) ?_; intro aa hS
 obtain ⟨ba, bs, bo, r, c, hR⟩ := hR.deskE
 dsimp only at hR
 refine wp_seq_k ?_; intro K648 hK648
 refine wp_region_lit ?_
 revert aa
 refine qN hR ?_
 intro aa hS
 refine wpList_nil ?_
 refine hK648 _ _ ?_
 refine wp_seq_k ?_; intro K649 hK649
 refine wp_region_lit ?_
 revert aa
 refine qM hR ?_
 refine qM hR ?_
 intro aa hS
 refine sB (Bcall hS rfl Try.call44 (aderror_ok (x := x) hD.at ((hR.pk (r := arena _ _ ba _) pkQ).pk (r := blk b _ 77) pkQ)) (by decide) ?_); clear hS; intro aa ww vv hS hp
 clear hR
 obtain ⟨rfl, hR⟩ := hp
 revert aa
 refine qN hR ?_
 intro aa hS
 refine wpList_nil ?_
 refine hK649 _ _ ?_
 refine wp_seq_k ?_; intro K650 hK650
 refine wp_seq_k ?_; intro K651 hK651
 refine wp_region_lit ?_
 revert aa
 refine qM hR ?_
 refine qA hR rfl (fun _ hS => Yld.eql hS rfl rfl) ?_
 refine qB (t := 10) false rfl (by exact decide_eq_false hz) ?_
 intro aa hS
 refine wpList_nil ?_
 refine hK651 _ _ ?_
 refine condF hS rfl ?_
 refine wp_skip ?_
 refine hK650 _ _ ?_
 refine wp_seq_k ?_; intro K652 hK652
 refine wp_region_lit ?_
 revert aa
 refine qM hR ?_
 refine qN hR ?_
 intro aa hS
 refine wpList_nil ?_
 refine hK652 _ _ ?_
 refine wp_ret ?_
 repeat first | with_reducible refine thenR ?_ | with_reducible refine blockR ?_ | with_reducible refine scopeR ?_
 refine ret1 (fn := Try.f22) (e := .ret) (.inl rfl) Try.results22 hS hR ⟨_, (.tmp rfl), ?_⟩
 try dsimp only [lay, List.set] at hR
 exact ⟨rfl, Sep.deskI (t := dd) (b := b) (hR.sub exQ)⟩
theorem adClo_bad {t p u : Int} {S lim b : Nat} {l : List HP} {w : World} {D : Dk} (hD : DW S lim D) {x : Int} (hz : ¬ clsE S D.T x = 0) (hR : Sep (deskA dd b S lim (t, p, u) D :: l) w) : CallR Try.prog 15 [.pointer (some ⟨b, 0, none⟩), .int .i64 x] w (fun v w' => v = .int .i64 (clsE S D.T x) ∧ Sep (deskA dd b S lim (t, p, u) D :: l) w') := by
 refine enter Try.func15 rfl Try.ntmps15 (Nat.le_of_ble_eq_true rfl) ?_; intro aa hS
 obtain ⟨ba, bs, bo, r, c, hR⟩ := hR.deskE
 dsimp only at hR
 refine wp_seq_k ?_; intro K653 hK653
 refine wp_region_lit ?_
 revert aa
 refine qN hR ?_
 intro aa hS
 refine wpList_nil ?_
 refine hK653 _ _ ?_
 refine wp_seq_k ?_; intro K654 hK654
 refine wp_region_lit ?_
 revert aa
 refine qM hR ?_
 refine qM hR ?_
 intro aa hS
 refine sB (Bcall hS rfl Try.call44 (aderror_ok (x := x) hD.at ((hR.pk (r := arena _ _ ba _) pkQ).pk (r := blk b _ 77) pkQ)) (by decide) ?_); clear hS; intro aa ww vv hS hp
 clear hR
 obtain ⟨rfl, hR⟩ := hp
 revert aa
 refine qN hR ?_
 intro aa hS
 refine wpList_nil ?_
 refine hK654 _ _ ?_
 refine wp_seq_k ?_; intro K655 hK655
 refine wp_seq_k ?_; intro K656 hK656
 refine wp_region_lit ?_
 revert aa
 refine qM hR ?_
 refine qA hR rfl (fun _ hS => Yld.eql hS rfl rfl) ?_
 refine qB (t := 10) false rfl (by exact decide_eq_false hz) ?_
 intro aa hS
 refine wpList_nil ?_
 refine hK656 _ _ ?_
 refine condF hS rfl ?_
 refine wp_skip ?_
 refine hK655 _ _ ?_
 refine wp_seq_k ?_; intro K657 hK657
 refine wp_region_lit ?_
 revert aa
 refine qM hR ?_
 refine qN hR ?_
 intro aa hS
 refine wpList_nil ?_
 refine hK657 _ _ ?_
 refine wp_ret ?_
 repeat first | with_reducible refine thenR ?_ | with_reducible refine blockR ?_ | with_reducible refine scopeR ?_
 refine ret1 (fn := Try.f15) (e := .ret) (.inl rfl) Try.results15 hS hR ⟨_, (.tmp rfl), ?_⟩
 try dsimp only [lay, List.set] at hR
 exact ⟨rfl, Sep.deskI (t := dd) (b := b) (hR.sub exQ)⟩
theorem adSee_ass {t p u : Int} {S lim b : Nat} {l : List HP} {w : World} {D : Dk} (hD : DW S lim D) {a : Int} {s : Nat} (hm : (a, s) ∈ D.T.O) (hso : s ∉ D.ord) (hR : Sep (deskA dd b S lim (t, p, u) D :: l) w) : CallR Try.prog 25 [.pointer (some ⟨b, 0, none⟩), .int .i64 (s : Int)] w (fun v w' => v = .int .i64 0 ∧ Sep (deskA dd b S lim (t, p, u) D :: l) w') := by
 refine enter Try.func25 rfl Try.ntmps25 (Nat.le_of_ble_eq_true rfl) ?_; intro aa hS
 obtain ⟨ba, bs, bo, r, c, hR⟩ := hR.deskE
 dsimp only at hR
 obtain ⟨hcl, hs, hq, v0, hv⟩ := clsE_of hD hm
 refine wp_seq_k ?_; intro K658 hK658
 refine wp_region_lit ?_
 revert aa
 refine qN hR ?_
 intro aa hS
 refine wpList_nil ?_
 refine hK658 _ _ ?_
 refine wp_seq_k ?_; intro K659 hK659
 refine wp_region_lit ?_
 revert aa
 refine qM hR ?_
 refine qM hR ?_
 intro aa hS
 refine sB (Bcall hS rfl Try.call44 (aderror_ok (x := (s : Int)) hD.at ((hR.pk (r := arena _ _ ba _) pkQ).pk (r := blk b _ 77) pkQ)) (by decide) ?_); clear hS; intro aa ww vv hS hp
 clear hR
 obtain ⟨rfl, hR⟩ := hp
 rw [hcl] at hS
 revert aa
 refine qN hR ?_
 intro aa hS
 refine wpList_nil ?_
 refine hK659 _ _ ?_
 refine wp_seq_k ?_; intro K660 hK660
 refine wp_seq_k ?_; intro K661 hK661
 refine wp_region_lit ?_
 revert aa
 refine qM hR ?_
 refine qA hR rfl (fun _ hS => Yld.eql hS rfl rfl) ?_
 refine qB (t := 10) true rfl (by rfl) ?_
 refine qM hR ?_
 refine qMg hR ?_
 refine qMg hR ?_
 intro aa hS
 refine sBg hS rfl rfl (Bcall hS rfl Try.call24 (adAssured_ok (x := (s : Int)) hD (Sep.deskI (t := dd) (b := b) (lim := lim) (q1 := t) (q2 := p) (q3 := u) (hR.sub exQ))) (by decide) ?_); clear hS; intro aa ww vv hS hp
 clear hR
 obtain ⟨rfl, hR⟩ := hp
 rw [show asD S D (s : Int) = true from by unfold asD; rw [hcl, Int.toNat_natCast]; simp [hso]] at hS
 obtain ⟨ba, bs, bo, r, c, hR⟩ := hR.deskE
 dsimp only at hR
 revert aa
 refine qAg hR rfl rfl rfl (fun _ hS => Yld.not hS rfl) ?_
 refine qA hR rfl (fun _ hS => Yld.pickT hS rfl rfl) ?_
 intro aa hS
 refine wpList_nil ?_
 refine hK661 _ _ ?_
 refine condF hS rfl ?_
 refine wp_skip ?_
 refine hK660 _ _ ?_
 refine wp_seq_k ?_; intro K662 hK662
 refine wp_region_lit ?_
 revert aa
 refine qM hR ?_
 refine qN hR ?_
 intro aa hS
 refine wpList_nil ?_
 refine hK662 _ _ ?_
 refine wp_ret ?_
 repeat first | with_reducible refine thenR ?_ | with_reducible refine blockR ?_ | with_reducible refine scopeR ?_
 refine ret1 (fn := Try.f25) (e := .ret) (.inl rfl) Try.results25 hS hR ⟨_, (.tmp rfl), ?_⟩
 try dsimp only [lay, List.set] at hR
 exact ⟨rfl, Sep.deskI (t := dd) (b := b) (hR.sub exQ)⟩
theorem adSee_un {t p u : Int} {S lim b : Nat} {l : List HP} {w : World} {D : Dk} (hD : DW S lim D) {a : Int} {s : Nat} (hm : (a, s) ∈ D.T.O) (hso : s ∈ D.ord) (hun : D.un ≤ 4611686018427387904) (hR : Sep (deskA dd b S lim (t, p, u) D :: l) w) : CallR Try.prog 25 [.pointer (some ⟨b, 0, none⟩), .int .i64 (s : Int)] w (fun v w' => v = .int .i64 0 ∧ Sep (deskA dd b S lim (t, p, u) (seeD D s) :: l) w') := by
 refine enter Try.func25 rfl Try.ntmps25 (Nat.le_of_ble_eq_true rfl) ?_; intro aa hS
 obtain ⟨ba, bs, bo, r, c, hR⟩ := hR.deskE
 dsimp only at hR
 obtain ⟨hcl, hs, hq, v0, hv⟩ := clsE_of hD hm
 refine wp_seq_k ?_; intro K663 hK663
 refine wp_region_lit ?_
 revert aa
 refine qN hR ?_
 intro aa hS
 refine wpList_nil ?_
 refine hK663 _ _ ?_
 refine wp_seq_k ?_; intro K664 hK664
 refine wp_region_lit ?_
 revert aa
 refine qM hR ?_
 refine qM hR ?_
 intro aa hS
 refine sB (Bcall hS rfl Try.call44 (aderror_ok (x := (s : Int)) hD.at ((hR.pk (r := arena _ _ ba _) pkQ).pk (r := blk b _ 77) pkQ)) (by decide) ?_); clear hS; intro aa ww vv hS hp
 clear hR
 obtain ⟨rfl, hR⟩ := hp
 rw [hcl] at hS
 revert aa
 refine qN hR ?_
 intro aa hS
 refine wpList_nil ?_
 refine hK664 _ _ ?_
 refine wp_seq_k ?_; intro K665 hK665
 refine wp_seq_k ?_; intro K666 hK666
 refine wp_region_lit ?_
 revert aa
 refine qM hR ?_
 refine qA hR rfl (fun _ hS => Yld.eql hS rfl rfl) ?_
 refine qB (t := 10) true rfl (by rfl) ?_
 refine qM hR ?_
 refine qMg hR ?_
 refine qMg hR ?_
 intro aa hS
 refine sBg hS rfl rfl (Bcall hS rfl Try.call24 (adAssured_ok (x := (s : Int)) hD (Sep.deskI (t := dd) (b := b) (lim := lim) (q1 := t) (q2 := p) (q3 := u) (hR.sub exQ))) (by decide) ?_); clear hS; intro aa ww vv hS hp
 clear hR
 obtain ⟨rfl, hR⟩ := hp
 rw [show asD S D (s : Int) = false from by unfold asD; rw [hcl, Int.toNat_natCast]; simp [hso]] at hS
 obtain ⟨ba, bs, bo, r, c, hR⟩ := hR.deskE
 dsimp only at hR
 revert aa
 refine qAg hR rfl rfl rfl (fun _ hS => Yld.not hS rfl) ?_
 refine qA hR rfl (fun _ hS => Yld.pickT hS rfl rfl) ?_
 intro aa hS
 refine wpList_nil ?_
 refine hK666 _ _ ?_
 refine condT hS rfl ?_
 refine wp_region_lit ?_
 revert aa
 refine qM hR ?_
 refine qA hR rfl (fun _ hS => Yld.nilCheck hS rfl) ?_
 refine qA hR rfl (fun _ hS => Yld.fieldAddr hS rfl 0 Try.underlying77 rfl rfl info75 (by decide)) ?_
 refine qA hR rfl (fun _ hS => Yld.fieldAddr hS rfl 2 Try.underlying75 rfl rfl info72 (by decide)) ?_
 refine qA hR rfl (fun _ hS => Yld.load1 hS rfl Try.underlying72 rfl rdQ) ?_
 refine qM hR ?_
 intro aa hS
 refine sB (Bcall hS rfl Try.call54 (lrSee_ok (i := (s : Int)) (hR.pk (r := lruA _ _ _ _ bo _ _ _ _) pkQ) ⟨hD.un, hun⟩) (by decide) ?_); clear hS; intro aa ww vv hS hp
 clear hR
 obtain ⟨rfl, hR⟩ := hp
 rw [(see_at (ord := D.ord) (tm := D.tm) (un := D.un) hs).1, (see_at (ord := D.ord) (tm := D.tm) (un := D.un) hs).2.1, (see_at (ord := D.ord) (tm := D.tm) (un := D.un) hs).2.2.1] at hR
 refine wpList_nil ?_
 refine hK665 _ _ ?_
 refine wp_seq_k ?_; intro K667 hK667
 refine wp_region_lit ?_
 revert aa
 refine qM hR ?_
 refine qN hR ?_
 intro aa hS
 refine wpList_nil ?_
 refine hK667 _ _ ?_
 refine wp_ret ?_
 repeat first | with_reducible refine thenR ?_ | with_reducible refine blockR ?_ | with_reducible refine scopeR ?_
 refine ret1 (fn := Try.f25) (e := .ret) (.inl rfl) Try.results25 hS hR ⟨_, (.tmp rfl), ?_⟩
 try dsimp only [lay, List.set] at hR
 exact ⟨rfl, Sep.deskI (t := dd) (b := b) (hR.sub exQ)⟩
theorem adAss_ok {t p u : Int} {S lim b : Nat} {l : List HP} {w : World} {D : Dk} (hD : DW S lim D) {a : Int} {s : Nat} (hm : (a, s) ∈ D.T.O) (hR : Sep (deskA dd b S lim (t, p, u) D :: l) w) : CallR Try.prog 22 [.pointer (some ⟨b, 0, none⟩), .int .i64 (s : Int)] w (fun v w' => v = .int .i64 0 ∧ Sep (deskA dd b S lim (t, p, u) (assD D s) :: l) w') := by
 refine enter Try.func22 rfl Try.ntmps22 (Nat.le_of_ble_eq_true rfl) ?_; intro aa hS
 obtain ⟨ba, bs, bo, r, c, hR⟩ := hR.deskE
 dsimp only at hR
 obtain ⟨hcl, hs, hq, v0, hv⟩ := clsE_of hD hm
 refine wp_seq_k ?_; intro K668 hK668
 refine wp_region_lit ?_
 revert aa
 refine qN hR ?_
 intro aa hS
 refine wpList_nil ?_
 refine hK668 _ _ ?_
 refine wp_seq_k ?_; intro K669 hK669
 refine wp_region_lit ?_
 revert aa
 refine qM hR ?_
 refine qM hR ?_
 intro aa hS
 refine sB (Bcall hS rfl Try.call44 (aderror_ok (x := (s : Int)) hD.at ((hR.pk (r := arena _ _ ba _) pkQ).pk (r := blk b _ 77) pkQ)) (by decide) ?_); clear hS; intro aa ww vv hS hp
 clear hR
 obtain ⟨rfl, hR⟩ := hp
 rw [hcl] at hS
 revert aa
 refine qN hR ?_
 intro aa hS
 refine wpList_nil ?_
 refine hK669 _ _ ?_
 refine wp_seq_k ?_; intro K670 hK670
 refine wp_seq_k ?_; intro K671 hK671
 refine wp_region_lit ?_
 revert aa
 refine qM hR ?_
 refine qA hR rfl (fun _ hS => Yld.eql hS rfl rfl) ?_
 refine qB (t := 10) true rfl (by rfl) ?_
 intro aa hS
 refine wpList_nil ?_
 refine hK671 _ _ ?_
 refine condT hS rfl ?_
 refine wp_region_lit ?_
 revert aa
 refine qM hR ?_
 refine qA hR rfl (fun _ hS => Yld.nilCheck hS rfl) ?_
 refine qA hR rfl (fun _ hS => Yld.fieldAddr hS rfl 0 Try.underlying77 rfl rfl info75 (by decide)) ?_
 refine qA hR rfl (fun _ hS => Yld.fieldAddr hS rfl 2 Try.underlying75 rfl rfl info72 (by decide)) ?_
 refine qA hR rfl (fun _ hS => Yld.load1 hS rfl Try.underlying72 rfl rdQ) ?_
 refine qM hR ?_
 intro aa hS
 refine sB (Bcall hS rfl Try.call51 (lrOut_ok (i := (s : Int)) (hR.pk (r := lruA _ _ _ _ bo _ _ _ _) pkQ)) (by decide) ?_); clear hS; intro aa ww vv hS hp
 clear hR
 obtain ⟨rfl, hR⟩ := hp
 rw [(see_at (ord := D.ord) (tm := D.tm) (un := D.un) hs).2.2.2] at hR
 refine wpList_nil ?_
 refine hK670 _ _ ?_
 refine wp_seq_k ?_; intro K672 hK672
 refine wp_region_lit ?_
 revert aa
 refine qM hR ?_
 refine qN hR ?_
 intro aa hS
 refine wpList_nil ?_
 refine hK672 _ _ ?_
 refine wp_ret ?_
 repeat first | with_reducible refine thenR ?_ | with_reducible refine blockR ?_ | with_reducible refine scopeR ?_
 refine ret1 (fn := Try.f22) (e := .ret) (.inl rfl) Try.results22 hS hR ⟨_, (.tmp rfl), ?_⟩
 try dsimp only [lay, List.set] at hR
 exact ⟨rfl, Sep.deskI (t := dd) (b := b) (hR.sub exQ)⟩
theorem adClo_ok {t p u : Int} {S lim b : Nat} {l : List HP} {w : World} {D : Dk} (hD : DW S lim D) {a : Int} {s : Nat} (hm : (a, s) ∈ D.T.O) (hR : Sep (deskA dd b S lim (t, p, u) D :: l) w) : CallR Try.prog 15 [.pointer (some ⟨b, 0, none⟩), .int .i64 (s : Int)] w (fun v w' => v = .int .i64 0 ∧ Sep (deskA dd b S lim (t, p, u) (clsD D a s) :: l) w') := by
 refine enter Try.func15 rfl Try.ntmps15 (Nat.le_of_ble_eq_true rfl) ?_; intro aa hS
 obtain ⟨ba, bs, bo, r, c, hR⟩ := hR.deskE
 dsimp only at hR
 obtain ⟨hcl, hs, hq, v0, hv⟩ := clsE_of hD hm
 refine wp_seq_k ?_; intro K673 hK673
 refine wp_region_lit ?_
 revert aa
 refine qN hR ?_
 intro aa hS
 refine wpList_nil ?_
 refine hK673 _ _ ?_
 refine wp_seq_k ?_; intro K674 hK674
 refine wp_region_lit ?_
 revert aa
 refine qM hR ?_
 refine qM hR ?_
 intro aa hS
 refine sB (Bcall hS rfl Try.call44 (aderror_ok (x := (s : Int)) hD.at ((hR.pk (r := arena _ _ ba _) pkQ).pk (r := blk b _ 77) pkQ)) (by decide) ?_); clear hS; intro aa ww vv hS hp
 clear hR
 obtain ⟨rfl, hR⟩ := hp
 rw [hcl] at hS
 revert aa
 refine qN hR ?_
 intro aa hS
 refine wpList_nil ?_
 refine hK674 _ _ ?_
 refine wp_seq_k ?_; intro K675 hK675
 refine wp_seq_k ?_; intro K676 hK676
 refine wp_region_lit ?_
 revert aa
 refine qM hR ?_
 refine qA hR rfl (fun _ hS => Yld.eql hS rfl rfl) ?_
 refine qB (t := 10) true rfl (by rfl) ?_
 intro aa hS
 refine wpList_nil ?_
 refine hK676 _ _ ?_
 refine condT hS rfl ?_
 refine wp_region_lit ?_
 revert aa
 refine qM hR ?_
 refine qM hR ?_
 intro aa hS
 refine sB (Bcall hS rfl Try.call40 (adclose_ok hs hq hv ((((hR.pk (r := lruA _ _ _ _ bo _ _ _ _) pkQ).pk (r := sourceA _ bs _ _ _) pkQ).pk (r := arena _ _ ba _) pkQ).pk (r := blk b _ 77) pkQ)) (by decide) ?_); clear hS; intro aa ww vv hS hp
 clear hR
 obtain ⟨rfl, hR⟩ := hp
 refine wpList_nil ?_
 refine hK675 _ _ ?_
 refine wp_seq_k ?_; intro K677 hK677
 refine wp_region_lit ?_
 revert aa
 refine qM hR ?_
 refine qN hR ?_
 intro aa hS
 refine wpList_nil ?_
 refine hK677 _ _ ?_
 refine wp_ret ?_
 repeat first | with_reducible refine thenR ?_ | with_reducible refine blockR ?_ | with_reducible refine scopeR ?_
 refine ret1 (fn := Try.f15) (e := .ret) (.inl rfl) Try.results15 hS hR ⟨_, (.tmp rfl), ?_⟩
 try dsimp only [lay, List.set] at hR
 exact ⟨rfl, Sep.deskI (t := dd) (b := b) (hR.sub exQ)⟩
theorem adSee_ok {t p u : Int} {S lim b : Nat} {l : List HP} {w : World} {D : Dk} (hD : DW S lim D) (hun : D.un ≤ 4611686018427387904) {x : Int} (hR : Sep (deskA dd b S lim (t, p, u) D :: l) w) : CallR Try.prog 25 [.pointer (some ⟨b, 0, none⟩), .int .i64 x] w (fun v w' => v = .int .i64 (clsE S D.T x) ∧ Sep (deskA dd b S lim (t, p, u) (seeN' S D x) :: l) w') := by
 by_cases hz : clsE S D.T x = 0
 ·
  obtain ⟨s, a, rfl, hm⟩ := clsE_nat hD hz
  unfold seeN'
  by_cases hso : s ∈ D.ord
  ·
   rw [if_pos ⟨hz, by rw [Int.toNat_natCast]; exact hso⟩, hz, Int.toNat_natCast]; exact adSee_un hD hm hso hun hR
  ·
   rw [if_neg (fun c => hso (by have := c.2; rwa [Int.toNat_natCast] at this)), hz]; exact adSee_ass hD hm hso hR
 ·
  unfold seeN'; rw [if_neg (fun c => hz c.1)]; exact adSee_bad hD hz hR
theorem adAssure_ok {t p u : Int} {S lim b : Nat} {l : List HP} {w : World} {D : Dk} (hD : DW S lim D) {x : Int} (hR : Sep (deskA dd b S lim (t, p, u) D :: l) w) : CallR Try.prog 22 [.pointer (some ⟨b, 0, none⟩), .int .i64 x] w (fun v w' => v = .int .i64 (clsE S D.T x) ∧ Sep (deskA dd b S lim (t, p, u) (assN S D x) :: l) w') := by
 by_cases hz : clsE S D.T x = 0
 ·
  obtain ⟨s, a, rfl, hm⟩ := clsE_nat hD hz
  unfold assN
  rw [if_pos hz, hz, Int.toNat_natCast]; exact adAss_ok hD hm hR
 ·
  unfold assN; rw [if_neg hz]; exact adAss_bad hD hz hR
theorem adClose_ok {t p u : Int} {S lim b : Nat} {l : List HP} {w : World} {D : Dk} (hD : DW S lim D) {x : Int} (hR : Sep (deskA dd b S lim (t, p, u) D :: l) w) : CallR Try.prog 15 [.pointer (some ⟨b, 0, none⟩), .int .i64 x] w (fun v w' => v = .int .i64 (clsE S D.T x) ∧ Sep (deskA dd b S lim (t, p, u) (cloN D x) :: l) w') := by
 by_cases hz : clsE S D.T x = 0
 ·
  obtain ⟨s, a, rfl, hm⟩ := clsE_nat hD hz
  unfold cloN
  rw [ofO_of hD.sf.nds hm, hz]; dsimp only
  rw [Int.toNat_natCast]; exact adClo_ok hD hm hR
 ·
  have hn : ofO D.T.O x = none := by
   cases hv : ofO D.T.O x with
   | none => rfl
   | some b =>
    obtain ⟨s, rfl, hm⟩ := ofO_in hv
    exact absurd (clsE_of hD hm).1 hz
  unfold cloN; rw [hn]; exact adClo_bad hD hz hR
end Go.Proofs.Ytkhdejjompbklaa.Sx
