/-
 
-/
import Derived.Test.YtkhdejjompbklaaGreatOAdB
namespace Go.Proofs.YtkhdejjompbklaaGreat.Sx
open Go
set_option maxRecDepth 20000
set_option linter.unusedVariables false
set_option linter.unusedSimpArgs false
theorem bld57_1_3 (x1 : Option Addr) (x3_a : Option Addr) (x3_n x3_c : Nat) (w : World) : (Instr.build 57 [(1, .pointer x1), (3, .slice x3_a x3_n x3_c)].toArray).run Tryz.prog w = .ok (.agg [.pointer none, .pointer x1, .pointer none, .slice x3_a x3_n x3_c].toArray) w := by kernel_rfl
theorem bld59_1_0 (x1_0 : Int) (x1_1 : Int) (x1_2 : Int) (x1_3 : Int) (x1_4 : Int) (x0_0 : Option Addr) (x0_1 : Option Addr) (x0_2 : Option Addr) (x0_3_a : Option Addr) (x0_3_n x0_3_c : Nat) (w : World) : (Instr.build 59 [(1, .agg [.int .i64 x1_0, .int .i64 x1_1, .int .i64 x1_2, .int .i64 x1_3, .int .i64 x1_4].toArray), (0, .agg [.pointer x0_0, .pointer x0_1, .pointer x0_2, .slice x0_3_a x0_3_n x0_3_c].toArray)].toArray).run Tryz.prog w = .ok (.agg [.pointer x0_0, .pointer x0_1, .pointer x0_2, .slice x0_3_a x0_3_n x0_3_c, .int .i64 x1_0, .int .i64 x1_1, .int .i64 x1_2, .int .i64 x1_3, .int .i64 x1_4, .int .i64 0].toArray) w := by kernel_rfl
set_option maxHeartbeats 1000000 in
theorem adNew_ok {S lim : Nat} {t p u : Int} {l : List HP} {w : World} (h1 : 1 ≤ S) (h2 : S ≤ 4096) (h3 : 1 ≤ lim) (h4 : lim ≤ 64) (hr : RR t p u) (hR : Sep l w) : CallR Tryz.prog 34 [.agg [.int .i64 (S : Int), .int .i64 (lim : Int), .int .i64 t, .int .i64 p, .int .i64 u].toArray] w (fun v w' => ∃ b, v = .tuple [.pointer (some ⟨b, 0, none⟩), .int .i64 0].toArray ∧ Sep (deskA dd b S lim (t, p, u) { A := Ar.new S, T := { O := [], R := [], A := Ar.new S }, ord := [], tm := fun _ => 0, un := 0, B := List.replicate S (0, 0), now := 0 } :: l) w') := by
 refine enter Tryz.func34 rfl Tryz.ntmps34 (Nat.le_of_ble_eq_true rfl) ?_; intro aa hS
 refine wp_seq_k ?_; intro K741 hK741
 refine wp_region_lit ?_
 refine sB (Bbox hS hR rfl (by rfl) (by decide) ?_); clear hS hR; intro aa ww bb1 hS hR
 revert aa
 refine qN hR ?_
 refine qN hR ?_
 intro aa hS
 refine wpList_nil ?_
 refine hK741 _ _ ?_
 refine wp_seq_k ?_; intro K742 hK742
 refine wp_region_lit ?_
 revert aa
 refine qA hR rfl (fun _ hS => Yld.fieldAddr hS rfl 0 Tryz.underlying33 rfl rfl info3 (by decide)) ?_
 refine qA hR rfl (fun _ hS => Yld.load1 hS rfl Tryz.underlying3 rfl rdQ) ?_
 refine qA hR rfl (fun _ hS => Yld.fieldAddr hS rfl 1 Tryz.underlying33 rfl rfl info3 (by decide)) ?_
 refine qA hR rfl (fun _ hS => Yld.load1 hS rfl Tryz.underlying3 rfl rdQ) ?_
 intro aa hS
 refine sB (Bcall hS rfl Tryz.call68 (soNew_ok hR h1 h2 h3 h4) (by decide) ?_); clear hS; intro aa ww vv hS hp
 clear hR
 obtain ⟨bs, rfl, hR⟩ := hp
 revert aa
 refine qM hR ?_
 refine qX hR ?_
 refine qX hR ?_
 refine qN hR ?_
 refine qN hR ?_
 intro aa hS
 refine wpList_nil ?_
 refine hK742 _ _ ?_
 refine wp_seq_k ?_; intro K743 hK743
 refine wp_seq_k ?_; intro K744 hK744
 refine wp_region_lit ?_
 revert aa
 refine qM hR ?_
 refine qA hR rfl (fun _ hS => Yld.neq hS rfl rfl) ?_
 refine qB (t := 16) false rfl (by rfl) ?_
 refine qM hR ?_
 refine qAg hR rfl rfl rfl (fun _ hS => Yld.fieldAddr hS rfl 2 Tryz.underlying33 rfl rfl info31 (by decide)) ?_
 intro aa hS
 refine sAg hS hR rfl rfl (Yld.loadAgg hS rfl Tryz.underlying31 rfl info31 rdsQ3 (by rfl)) (by decide) ?_; clear hS; intro aa hS
 refine sBg hS rfl rfl (Bcall hS rfl Tryz.call69 (bkRightRate_ok hR) (by decide) ?_); clear hS; intro aa ww vv hS hp
 clear hR
 obtain ⟨rfl, hR⟩ := hp
 rw [decide_eq_true hr] at hS
 revert aa
 refine qAg hR rfl rfl rfl (fun _ hS => Yld.not hS rfl) ?_
 refine qA hR rfl (fun _ hS => Yld.pickF hS rfl rfl) ?_
 intro aa hS
 refine wpList_nil ?_
 refine hK744 _ _ ?_
 refine condF hS rfl ?_
 refine wp_skip ?_
 refine hK743 _ _ ?_
 refine wp_seq_k ?_; intro K745 hK745
 refine drawn krQ hR Ex.refl ?_; clear hR; intro ww hR hR0
 refine dA 0 rfl krQ krQ krQ (fun _ _ _ h => h) hS hR0 (Yld.loadAgg hS rfl Tryz.underlying33 rfl info33 rdsQ5 (by rfl)) (by decide) ?_; clear hS; intro aa hS
 revert aa
 refine eA 1 rfl krQ (fun _ _ _ h => h) hR0 rfl (fun _ hS => Yld.move hS rfl) ?_
 refine eA 2 rfl krQ (fun _ _ _ h => h) hR0 rfl (fun _ hS => Yld.fieldAddr hS rfl 0 Tryz.underlying33 rfl rfl info3 (by decide)) ?_
 refine eA 3 rfl krQ (fun _ _ _ h => h) hR0 rfl (fun _ hS => Yld.load1 hS rfl Tryz.underlying3 rfl rdQ) ?_
 intro aa hS
 refine dOne (i := 4) krQ ?_
 refine dop rfl (Bmake (zc := [.int .i64 0, .int .i64 0]) hS hR rfl rfl Tryz.underlying55 info67 rfl (by rfl) (by rfl) (by decide) (by omega) (by show ((16 : Nat) : Int) * _ ≤ _; omega) (by omega) (by decide) ?_); clear hS hR hR0; intro aa ww bb27 hS hR
 refine dnext (hR.sub exQ) ?_; intro hR0
 rw [show ((S : Int)).toNat = S from Int.toNat_natCast S] at hS hR
 replace hR := hR.pk (r := blk bb27 _ _) pkQ
 rw [zeros_flat (zc := [.int .i64 0, .int .i64 0]) (enc := e2) ((0, 0) : Int × Int) S rfl] at hR
 replace hR := Sep.toRecs (m := S) (sz := 2) (enc := e2) (List.replicate S (0, 0)) hR rfl (by intro _; rfl) (by rw [List.length_replicate])
 revert aa
 refine eA 5 rfl krQ (fun _ _ _ h => h) hR0 rfl (fun _ hS => Yld.build hS rfl (bld57_1_3 _ _ _ _)) ?_
 refine eA 6 rfl krQ (fun _ _ _ h => h) hR0 rfl (fun _ hS => Yld.build hS rfl (bld59_1_0 _ _ _ _ _ _ _ _ _ _ _)) ?_
 intro aa hS
 refine dOne (i := 7) krQ ?_
 refine dop rfl (Bbox hS hR rfl (by rfl) (by decide) ?_); clear hS hR hR0; intro aa ww bb30 hS hR
 refine dnext (hR.sub exQ) ?_; intro hR0
 revert aa
 refine eA 8 rfl krQ (fun _ _ _ h => h) hR0 rfl (fun _ hS => Yld.assign hS rfl) ?_
 intro aa hS
 refine wpAnyH_done krQ ?_ _; clear hR0
 refine hK745 _ _ ?_
 refine wp_seq_k ?_; intro K746 hK746
 refine wp_region_lit ?_
 revert aa
 refine qM hR ?_
 refine qA hR rfl (fun _ hS => Yld.fieldAddr hS rfl 0 Tryz.underlying33 rfl rfl info3 (by decide)) ?_
 refine qA hR rfl (fun _ hS => Yld.load1 hS rfl Tryz.underlying3 rfl rdQ) ?_
 intro aa hS
 refine sB (Bcall hS rfl Tryz.call70 (New_ok (n := (S : Int)) hR (by omega)) (by decide) ?_); clear hS; intro aa ww vv hS hp
 clear hR
 obtain ⟨ba, rfl, hR⟩ := hp
 rw [Int.toNat_natCast] at hR
 revert aa
 refine qM hR ?_
 refine qX hR ?_
 refine qX hR ?_
 refine qA hR rfl (fun _ hS => Yld.nilCheck hS rfl) ?_
 refine qA hR rfl (fun _ hS => Yld.fieldAddr hS rfl 0 Tryz.underlying59 rfl rfl info57 (by decide)) ?_
 refine qA hR rfl (fun _ hS => Yld.fieldAddr hS rfl 0 Tryz.underlying57 rfl rfl info52 (by decide)) ?_
 intro aa hS
 refine sB (Bstore hS hR rfl rfl (by rfl) info52 (by rfl) pkQ (by rfl) (Nat.le_of_ble_eq_true rfl) ?_); clear hR; intro ww hR
 refine wpList_nil ?_
 refine hK746 _ _ ?_
 refine wp_seq_k ?_; intro K747 hK747
 refine wp_region_lit ?_
 revert aa
 refine qM hR ?_
 refine qA hR rfl (fun _ hS => Yld.fieldAddr hS rfl 0 Tryz.underlying33 rfl rfl info3 (by decide)) ?_
 refine qA hR rfl (fun _ hS => Yld.load1 hS rfl Tryz.underlying3 rfl rdQ) ?_
 intro aa hS
 refine sB (Bcall hS rfl Tryz.call71 (lrNew_ok hR h1 h2) (by decide) ?_); clear hS; intro aa ww vv hS hp
 clear hR
 obtain ⟨bo, rfl, hR⟩ := hp
 revert aa
 refine qM hR ?_
 refine qX hR ?_
 refine qX hR ?_
 refine qA hR rfl (fun _ hS => Yld.nilCheck hS rfl) ?_
 refine qA hR rfl (fun _ hS => Yld.fieldAddr hS rfl 0 Tryz.underlying59 rfl rfl info57 (by decide)) ?_
 refine qA hR rfl (fun _ hS => Yld.fieldAddr hS rfl 2 Tryz.underlying57 rfl rfl info54 (by decide)) ?_
 intro aa hS
 refine sB (Bstore hS hR rfl rfl (by rfl) info54 (by rfl) pkQ (by rfl) (Nat.le_of_ble_eq_true rfl) ?_); clear hR; intro ww hR
 refine wpList_nil ?_
 refine hK747 _ _ ?_
 refine wp_seq_k ?_; intro K748 hK748
 refine wp_region_lit ?_
 revert aa
 refine qM hR ?_
 refine qN hR ?_
 refine qN hR ?_
 intro aa hS
 refine wpList_nil ?_
 refine hK748 _ _ ?_
 refine wp_ret ?_
 repeat first | with_reducible refine thenR ?_ | with_reducible refine blockR ?_ | with_reducible refine scopeR ?_
 refine retN (fn := Tryz.f34) (e := .ret) (.inl rfl) Tryz.results34 hS hR ⟨_, .cons (.tmp rfl) (.cons (.tmp rfl) (.nil)), rfl, ?_⟩
 try dsimp only [lay, List.set] at hR
 exact ⟨bb30, rfl, Sep.deskI (t := dd) (b := bb30) (hR.sub exQ)⟩
end Go.Proofs.YtkhdejjompbklaaGreat.Sx
