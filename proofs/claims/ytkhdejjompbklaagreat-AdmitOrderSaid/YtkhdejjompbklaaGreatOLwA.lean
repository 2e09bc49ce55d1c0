/-
 
-/
import Derived.Test.YtkhdejjompbklaaGreatOAdD
import Derived.Test.YtkhdejjompbklaaGreatOPze
import Derived.Test.YtkhdejjompbklaaGreatOPza
namespace Go.Proofs.YtkhdejjompbklaaGreat.Sx
open Go
set_option maxRecDepth 20000
set_option linter.unusedVariables false
set_option linter.unusedSimpArgs false
theorem info23 : Tryz.prog.info? 23 = some Tryz.t23 := by kernel_rfl
theorem info27 : Tryz.prog.info? 27 = some Tryz.t27 := by kernel_rfl
theorem bld31_0_1_2 (x0 : Int) (x1 : Int) (x2 : Int) (w : World) : (Instr.build 31 [(0, .int .i64 x0), (1, .int .i64 x1), (2, .int .i64 x2)].toArray).run Tryz.prog w = .ok (.agg [.int .i64 x0, .int .i64 x1, .int .i64 x2].toArray) w := by kernel_rfl
theorem bld33_0_1_2 (x0 : Int) (x1 : Int) (x2_0 : Int) (x2_1 : Int) (x2_2 : Int) (w : World) : (Instr.build 33 [(0, .int .i64 x0), (1, .int .i64 x1), (2, .agg [.int .i64 x2_0, .int .i64 x2_1, .int .i64 x2_2].toArray)].toArray).run Tryz.prog w = .ok (.agg [.int .i64 x0, .int .i64 x1, .int .i64 x2_0, .int .i64 x2_1, .int .i64 x2_2].toArray) w := by kernel_rfl
theorem rules_ok {a b c d e : Int} {l : List HP} {w : World} (hR : Sep l w) : CallR Tryz.prog 19 [.int .i64 a, .int .i64 b, .int .i64 c, .int .i64 d, .int .i64 e] w (fun v w' => v = .agg [.int .i64 a, .int .i64 b, .int .i64 c, .int .i64 d, .int .i64 e].toArray ∧ Sep l w') := by
 refine enter Tryz.func19 rfl Tryz.ntmps19 (Nat.le_of_ble_eq_true rfl) ?_; intro aa hS
 refine wp_seq_k ?_; intro K889 hK889
 refine wp_region_lit ?_
 refine sB (Balloc hS hR info33 (by rfl) (by rfl) (by decide) ?_); clear hS hR; intro aa ww bb10 hS hR
 refine wpList_nil ?_
 refine hK889 _ _ ?_
 refine wp_seq_k ?_; intro K890 hK890
 refine wp_region_lit ?_
 revert aa
 refine qM hR ?_
 refine qM hR ?_
 refine qM hR ?_
 refine qM hR ?_
 refine qM hR ?_
 refine qA hR rfl (fun _ hS => Yld.build hS rfl (bld31_0_1_2 _ _ _)) ?_
 refine qA hR rfl (fun _ hS => Yld.build hS rfl (bld33_0_1_2 _ _ _ _ _)) ?_
 intro aa hS
 refine sB (Bstore hS hR rfl rfl (by rfl) info33 (by rfl) pkQ (by rfl) (Nat.le_of_ble_eq_true rfl) ?_); clear hR; intro ww hR
 refine wpList_nil ?_
 refine hK890 _ _ ?_
 refine wp_ret ?_
 repeat first | with_reducible refine thenR ?_ | with_reducible refine blockR ?_ | with_reducible refine scopeR ?_
 refine ret1 (fn := Tryz.f19) (e := .ret) (.inl rfl) Tryz.results19 hS hR ⟨_, (.agg rfl Tryz.underlying33 rfl info33 (Rds.cons (Rd.blk pkQ (by rfl)) (Rds.cons (Rd.blk pkQ (by rfl)) (Rds.cons (Rd.blk pkQ (by rfl)) (Rds.cons (Rd.blk pkQ (by rfl)) (Rds.cons (Rd.blk pkQ (by rfl)) (Rds.nil)))))) (by rfl)), ?_⟩
 exact ⟨rfl, (hR.sub exQ)⟩
theorem modulo_ok {n m : Int} {l : List HP} {w : World} (hm : 1 ≤ m ∧ m ≤ 8192) (hR : Sep l w) : CallR Tryz.prog 10 [.int .i64 n, .int .i64 m] w (fun v w' => v = .int .i64 (n % m) ∧ Sep l w') := by
 refine enter Tryz.func10 rfl Tryz.ntmps10 (Nat.le_of_ble_eq_true rfl) ?_; intro aa hS
 have hab := tmodD (n := n) (b := m) (by omega)
 refine wp_seq_k ?_; intro K891 hK891
 refine wp_region_lit ?_
 revert aa
 refine qN hR ?_
 intro aa hS
 refine wpList_nil ?_
 refine hK891 _ _ ?_
 refine wp_seq_k ?_; intro K892 hK892
 refine wp_region_lit ?_
 revert aa
 refine qM hR ?_
 refine qM hR ?_
 refine qA hR rfl (fun _ hS => Yld.rem hS rfl rfl (by omega)) ?_
 refine qM hR ?_
 intro aa hS
 refine sA hS hR adQ (by decide) ?_; clear hS; intro aa hS
 revert aa
 refine qM hR ?_
 refine qA hR rfl (fun _ hS => by first | exact Yld.rem64 hS rfl rfl (by omega) | exact Yld.rem hS rfl rfl (by omega)) ?_
 refine qN hR ?_
 intro aa hS
 refine wpList_nil ?_
 refine hK892 _ _ ?_
 refine wp_ret ?_
 repeat first | with_reducible refine thenR ?_ | with_reducible refine blockR ?_ | with_reducible refine scopeR ?_
 refine ret1 (fn := Tryz.f10) (e := .ret) (.inl rfl) Tryz.results10 hS hR ⟨_, (.tmp rfl), ?_⟩
 refine ⟨?_, (hR.sub exQ)⟩
 rw [mod2D (by omega)]
theorem of_ok {n0 n1 n2 n3 n4 : Int} {l : List HP} {w : World} (h0 : 0 ≤ n0 ∧ n0 ≤ 255) (h1 : 0 ≤ n1 ∧ n1 ≤ 255) (h2 : 0 ≤ n2 ∧ n2 ≤ 255) (h3 : 0 ≤ n3 ∧ n3 ≤ 255) (h4 : 0 ≤ n4 ∧ n4 ≤ 255) (hR : Sep l w) : CallR Tryz.prog 35 [.agg [.int .u8 n0, .int .u8 n1, .int .u8 n2, .int .u8 n3, .int .u8 n4].toArray] w (fun v w' => v = .agg [.int .i64 (1 + n0 % 20), .int .i64 (1 + n1 % 8), .int .i64 (1 + n2 % 3), .int .i64 (1 + n3 % 20), .int .i64 (1 + n4 % 6)].toArray ∧ Sep l w') := by
 refine enter Tryz.func35 rfl Tryz.ntmps35 (Nat.le_of_ble_eq_true rfl) ?_; intro aa hS
 refine wp_seq_k ?_; intro K893 hK893
 refine wp_region_lit ?_
 refine sB (Bbox hS hR rfl (by rfl) (by decide) ?_); clear hS hR; intro aa ww bb1 hS hR
 refine sB (Balloc hS hR info33 (by rfl) (by rfl) (by decide) ?_); clear hS hR; intro aa ww bb2 hS hR
 refine wpList_nil ?_
 refine hK893 _ _ ?_
 refine wp_seq_k ?_; intro K894 hK894
 refine wp_region_lit ?_
 revert aa
 refine qA hR rfl (fun _ hS => Yld.fieldAddr hS rfl 0 Tryz.underlying23 rfl rfl info5 (by decide)) ?_
 refine qA hR rfl (fun _ hS => Yld.load1 hS rfl Tryz.underlying5 rfl rdQ) ?_
 refine qA hR rfl (fun _ hS => by first | exact Yld.to (Yld.convInt hS rfl rfl Tryz.underlying3) (congrArg (Value.int .i64) (IntWalk.i64_in _ (by omega))) | exact Yld.convInt hS rfl rfl Tryz.underlying3) ?_
 refine qA hR rfl (fun _ hS => by first | exact Yld.rem64 hS rfl rfl (by omega) | exact Yld.rem hS rfl rfl (by omega)) ?_
 intro aa hS
 refine sA hS hR adQ (by decide) ?_; clear hS; intro aa hS
 revert aa
 refine qA hR rfl (fun _ hS => Yld.fieldAddr hS rfl 1 Tryz.underlying23 rfl rfl info5 (by decide)) ?_
 refine qA hR rfl (fun _ hS => Yld.load1 hS rfl Tryz.underlying5 rfl rdQ) ?_
 refine qA hR rfl (fun _ hS => by first | exact Yld.to (Yld.convInt hS rfl rfl Tryz.underlying3) (congrArg (Value.int .i64) (IntWalk.i64_in _ (by omega))) | exact Yld.convInt hS rfl rfl Tryz.underlying3) ?_
 refine qA hR rfl (fun _ hS => by first | exact Yld.rem64 hS rfl rfl (by omega) | exact Yld.rem hS rfl rfl (by omega)) ?_
 intro aa hS
 refine sA hS hR adQ (by decide) ?_; clear hS; intro aa hS
 revert aa
 refine qA hR rfl (fun _ hS => Yld.fieldAddr hS rfl 2 Tryz.underlying23 rfl rfl info5 (by decide)) ?_
 refine qA hR rfl (fun _ hS => Yld.load1 hS rfl Tryz.underlying5 rfl rdQ) ?_
 refine qA hR rfl (fun _ hS => by first | exact Yld.to (Yld.convInt hS rfl rfl Tryz.underlying3) (congrArg (Value.int .i64) (IntWalk.i64_in _ (by omega))) | exact Yld.convInt hS rfl rfl Tryz.underlying3) ?_
 refine qA hR rfl (fun _ hS => by first | exact Yld.rem64 hS rfl rfl (by omega) | exact Yld.rem hS rfl rfl (by omega)) ?_
 intro aa hS
 refine sA hS hR adQ (by decide) ?_; clear hS; intro aa hS
 revert aa
 refine qA hR rfl (fun _ hS => Yld.fieldAddr hS rfl 3 Tryz.underlying23 rfl rfl info5 (by decide)) ?_
 refine qA hR rfl (fun _ hS => Yld.load1 hS rfl Tryz.underlying5 rfl rdQ) ?_
 refine qA hR rfl (fun _ hS => by first | exact Yld.to (Yld.convInt hS rfl rfl Tryz.underlying3) (congrArg (Value.int .i64) (IntWalk.i64_in _ (by omega))) | exact Yld.convInt hS rfl rfl Tryz.underlying3) ?_
 refine qA hR rfl (fun _ hS => by first | exact Yld.rem64 hS rfl rfl (by omega) | exact Yld.rem hS rfl rfl (by omega)) ?_
 intro aa hS
 refine sA hS hR adQ (by decide) ?_; clear hS; intro aa hS
 revert aa
 refine qA hR rfl (fun _ hS => Yld.fieldAddr hS rfl 4 Tryz.underlying23 rfl rfl info5 (by decide)) ?_
 refine qA hR rfl (fun _ hS => Yld.load1 hS rfl Tryz.underlying5 rfl rdQ) ?_
 refine qA hR rfl (fun _ hS => by first | exact Yld.to (Yld.convInt hS rfl rfl Tryz.underlying3) (congrArg (Value.int .i64) (IntWalk.i64_in _ (by omega))) | exact Yld.convInt hS rfl rfl Tryz.underlying3) ?_
 refine qA hR rfl (fun _ hS => by first | exact Yld.rem64 hS rfl rfl (by omega) | exact Yld.rem hS rfl rfl (by omega)) ?_
 intro aa hS
 refine sA hS hR adQ (by decide) ?_; clear hS; intro aa hS
 refine sB (Bcall hS rfl Tryz.call19 (rules_ok hR) (by decide) ?_); clear hS; intro aa ww vv hS hp
 clear hR
 obtain ⟨rfl, hR⟩ := hp
 refine sB (Bstore hS hR rfl rfl (by rfl) info33 (by rfl) pkQ (by rfl) (Nat.le_of_ble_eq_true rfl) ?_); clear hR; intro ww hR
 refine wpList_nil ?_
 refine hK894 _ _ ?_
 refine wp_ret ?_
 repeat first | with_reducible refine thenR ?_ | with_reducible refine blockR ?_ | with_reducible refine scopeR ?_
 refine ret1 (fn := Tryz.f35) (e := .ret) (.inl rfl) Tryz.results35 hS hR ⟨_, (.agg rfl Tryz.underlying33 rfl info33 (Rds.cons (Rd.blk pkQ (by rfl)) (Rds.cons (Rd.blk pkQ (by rfl)) (Rds.cons (Rd.blk pkQ (by rfl)) (Rds.cons (Rd.blk pkQ (by rfl)) (Rds.cons (Rd.blk pkQ (by rfl)) (Rds.nil)))))) (by rfl)), ?_⟩
 try dsimp only [lay, List.set] at hR
 exact ⟨rfl, (hR.sub exQ)⟩
set_option maxHeartbeats 1000000 in
theorem do_ok {D : Dk} {S lim b m : Nat} {t p u k a x : Int} {l : List HP} {w : World} (hD : MD S lim t p u m D) (hm : m ≤ 10000) (h1 : 1 ≤ S) (h2 : S ≤ 4096) (hk0 : 0 ≤ k ∧ k ≤ 255) (ha : 0 ≤ a ∧ a ≤ 4294967295) (hR : Sep (deskA dd b S lim (t, p, u) D :: l) w) : CallR Tryz.prog 13 [.pointer (some ⟨b, 0, none⟩), .int .i64 (S : Int), .agg [.int .u8 k, .int .u32 a, .int .i64 x].toArray] w (fun v w' => v = doV (doD S lim t p u D k a x) ∧ Sep (deskA dd b S lim (t, p, u) (doD S lim t p u D k a x).2.2 :: l) w') := by
 refine enter Tryz.func13 rfl Tryz.ntmps13 (Nat.le_of_ble_eq_true rfl) ?_; intro aa hS
 have hun := hD.un
 have hnw := hD.now
 have h40 : 0 ≤ x % 40 ∧ x % 40 < 40 := by omega
 have hn0 := hD.f.w.now
 obtain ⟨y, hy⟩ : ∃ y, tryD lim t p u D (D.now + x % 40) (a % 6) = y := ⟨_, rfl⟩
 have hye : y.1.2.2.2.2 = 0 := by rw [← hy]; exact tryD_e (by omega)
 refine wp_seq_k ?_; intro K895 hK895
 refine wp_region_lit ?_
 refine sB (Bbox hS hR rfl (by rfl) (by decide) ?_); clear hS hR; intro aa ww bb5 hS hR
 refine sB (Balloc hS hR info43 (by rfl) (by rfl) (by decide) ?_); clear hS hR; intro aa ww bb6 hS hR
 revert aa
 refine qN hR ?_
 intro aa hS
 refine wpList_nil ?_
 refine hK895 _ _ ?_
 refine wp_seq_k ?_; intro K896 hK896
 refine wp_region_lit ?_
 revert aa
 refine qA hR rfl (fun _ hS => Yld.fieldAddr hS rfl 2 Tryz.underlying27 rfl rfl info3 (by decide)) ?_
 refine qA hR rfl (fun _ hS => Yld.load1 hS rfl Tryz.underlying3 rfl rdQ) ?_
 refine qM hR ?_
 intro aa hS
 refine sB (Bcall hS rfl Tryz.call10 (modulo_ok (n := x) (m := (S : Int)) (by omega) hR) (by decide) ?_); clear hS; intro aa ww vv hS hp
 clear hR
 obtain ⟨rfl, hR⟩ := hp
 revert aa
 refine qN hR ?_
 intro aa hS
 refine wpList_nil ?_
 refine hK896 _ _ ?_
 refine wp_seq_k ?_; intro K897 hK897
 refine wp_seq_k ?_; intro K898 hK898
 refine wp_region_lit ?_
 revert aa
 refine qA hR rfl (fun _ hS => Yld.fieldAddr hS rfl 0 Tryz.underlying27 rfl rfl info5 (by decide)) ?_
 refine qA hR rfl (fun _ hS => Yld.load1 hS rfl Tryz.underlying5 rfl rdQ) ?_
 refine qA hR rfl (fun _ hS => by first | exact Yld.rem64 hS rfl rfl (by omega) | exact Yld.rem hS rfl rfl (by omega)) ?_
 intro aa hS
 refine wpList_nil ?_
 refine hK898 _ _ ?_
 refine wp_block ?_
 refine wp_seq_k ?_; intro K899 hK899
 refine wp_seq_k ?_; intro K900 hK900
 refine wp_region_lit ?_
 revert aa
 refine qA hR rfl (fun _ hS => Yld.eql hS rfl rfl) ?_
 refine qN hR ?_
 intro aa hS
 refine wpList_nil ?_
 refine hK900 _ _ ?_
 refine hS.splitB (t := 35) rfl ?_ ?_ <;> clear hS
 ·
  intro hg hS
  refine condT hS rfl ?_
  refine wp_skip ?_
  refine hK899 _ _ ?_
  refine condT hS rfl ?_
  refine wp_region_lit ?_
  revert aa
  refine qM hR ?_
  refine qM hR ?_
  intro aa hS
  refine sB (Bcall hS rfl Tryz.call23 (adSee_ok (x := x % S) hD.f.w (by omega) (hR.pk (r := deskA _ _ _ _ _ _) pkQ)) (by decide) ?_); clear hS; intro aa ww vv hS hp
  clear hR
  obtain ⟨rfl, hR⟩ := hp
  refine wpList_nil ?_
  refine hK897 _ _ ?_
  refine wp_seq_k ?_; intro K901 hK901
  refine wp_region_lit ?_
  refine sA hS hR (Yld.build hS rfl (bld43_)) (by decide) ?_; clear hS; intro aa hS
  refine sB (Bstore hS hR rfl rfl (by rfl) info43 (by rfl) pkQ (by rfl) (Nat.le_of_ble_eq_true rfl) ?_); clear hR; intro ww hR
  revert aa
  refine qN hR ?_
  intro aa hS
  refine wpList_nil ?_
  refine hK901 _ _ ?_
  refine wp_ret ?_
  repeat first | with_reducible refine thenR ?_ | with_reducible refine blockR ?_ | with_reducible refine scopeR ?_
  refine retN (fn := Tryz.f13) (e := .ret) (.inl rfl) Tryz.results13 hS hR ⟨_, .cons (.agg rfl Tryz.underlying43 rfl info43 (Rds.cons (Rd.blk pkQ (by rfl)) (Rds.cons (Rd.blk pkQ (by rfl)) (Rds.cons (Rd.blk pkQ (by rfl)) (Rds.cons (Rd.blk pkQ (by rfl)) (Rds.nil))))) (by rfl)) (.cons (.tmp rfl) (.nil)), rfl, ?_⟩
  have hk : k % 8 = 4 ∨ k % 8 = 7 := by omega
  have hst : doD S lim t p u D k a x = ((0, 0, 0, false), false, seeN' S D (x % S)) := by unfold doD; rw [if_pos hk]
  rw [hst]
  try dsimp only [lay, List.set] at hR
  exact ⟨rfl, (hR.sub exQ)⟩
 ·
  intro hg hS
  refine condF hS rfl ?_
  refine wp_region_lit ?_
  revert aa
  refine qA hR rfl (fun _ hS => Yld.eql hS rfl rfl) ?_
  refine qN hR ?_
  intro aa hS
  refine wpList_nil ?_
  refine hK899 _ _ ?_
  refine hS.splitB (t := 35) rfl ?_ ?_ <;> clear hS
  ·
   intro hg hS
   refine condT hS rfl ?_
   refine wp_region_lit ?_
   revert aa
   refine qM hR ?_
   refine qM hR ?_
   intro aa hS
   refine sB (Bcall hS rfl Tryz.call23 (adSee_ok (x := x % S) hD.f.w (by omega) (hR.pk (r := deskA _ _ _ _ _ _) pkQ)) (by decide) ?_); clear hS; intro aa ww vv hS hp
   clear hR
   obtain ⟨rfl, hR⟩ := hp
   refine wpList_nil ?_
   refine hK897 _ _ ?_
   refine wp_seq_k ?_; intro K902 hK902
   refine wp_region_lit ?_
   refine sA hS hR (Yld.build hS rfl (bld43_)) (by decide) ?_; clear hS; intro aa hS
   refine sB (Bstore hS hR rfl rfl (by rfl) info43 (by rfl) pkQ (by rfl) (Nat.le_of_ble_eq_true rfl) ?_); clear hR; intro ww hR
   revert aa
   refine qN hR ?_
   intro aa hS
   refine wpList_nil ?_
   refine hK902 _ _ ?_
   refine wp_ret ?_
   repeat first | with_reducible refine thenR ?_ | with_reducible refine blockR ?_ | with_reducible refine scopeR ?_
   refine retN (fn := Tryz.f13) (e := .ret) (.inl rfl) Tryz.results13 hS hR ⟨_, .cons (.agg rfl Tryz.underlying43 rfl info43 (Rds.cons (Rd.blk pkQ (by rfl)) (Rds.cons (Rd.blk pkQ (by rfl)) (Rds.cons (Rd.blk pkQ (by rfl)) (Rds.cons (Rd.blk pkQ (by rfl)) (Rds.nil))))) (by rfl)) (.cons (.tmp rfl) (.nil)), rfl, ?_⟩
   have hk : k % 8 = 4 ∨ k % 8 = 7 := by omega
   have hst : doD S lim t p u D k a x = ((0, 0, 0, false), false, seeN' S D (x % S)) := by unfold doD; rw [if_pos hk]
   rw [hst]
   try dsimp only [lay, List.set] at hR
   exact ⟨rfl, (hR.sub exQ)⟩
  ·
   intro hg hS
   refine condF hS rfl ?_
   refine wp_seq_k ?_; intro K903 hK903
   refine wp_region_lit ?_
   revert aa
   refine qA hR rfl (fun _ hS => Yld.eql hS rfl rfl) ?_
   refine qN hR ?_
   intro aa hS
   refine wpList_nil ?_
   refine hK903 _ _ ?_
   refine hS.splitB (t := 41) rfl ?_ ?_ <;> clear hS
   ·
    intro hg hS
    refine condT hS rfl ?_
    refine wp_region_lit ?_
    revert aa
    refine qM hR ?_
    refine qM hR ?_
    intro aa hS
    refine sB (Bcall hS rfl Tryz.call24 (adAssure_ok (x := x % S) hD.f.w (hR.pk (r := deskA _ _ _ _ _ _) pkQ)) (by decide) ?_); clear hS; intro aa ww vv hS hp
    clear hR
    obtain ⟨rfl, hR⟩ := hp
    refine wpList_nil ?_
    refine hK897 _ _ ?_
    refine wp_seq_k ?_; intro K904 hK904
    refine wp_region_lit ?_
    refine sA hS hR (Yld.build hS rfl (bld43_)) (by decide) ?_; clear hS; intro aa hS
    refine sB (Bstore hS hR rfl rfl (by rfl) info43 (by rfl) pkQ (by rfl) (Nat.le_of_ble_eq_true rfl) ?_); clear hR; intro ww hR
    revert aa
    refine qN hR ?_
    intro aa hS
    refine wpList_nil ?_
    refine hK904 _ _ ?_
    refine wp_ret ?_
    repeat first | with_reducible refine thenR ?_ | with_reducible refine blockR ?_ | with_reducible refine scopeR ?_
    refine retN (fn := Tryz.f13) (e := .ret) (.inl rfl) Tryz.results13 hS hR ⟨_, .cons (.agg rfl Tryz.underlying43 rfl info43 (Rds.cons (Rd.blk pkQ (by rfl)) (Rds.cons (Rd.blk pkQ (by rfl)) (Rds.cons (Rd.blk pkQ (by rfl)) (Rds.cons (Rd.blk pkQ (by rfl)) (Rds.nil))))) (by rfl)) (.cons (.tmp rfl) (.nil)), rfl, ?_⟩
    have hk : ¬ (k % 8 = 4 ∨ k % 8 = 7) := by omega
    have hst : doD S lim t p u D k a x = ((0, 0, 0, false), false, assN S D (x % S)) := by unfold doD; rw [if_neg hk, if_pos (by omega)]
    rw [hst]
    try dsimp only [lay, List.set] at hR
    exact ⟨rfl, (hR.sub exQ)⟩
   ·
    intro hg hS
    refine condF hS rfl ?_
    refine wp_seq_k ?_; intro K905 hK905
    refine wp_region_lit ?_
    revert aa
    refine qA hR rfl (fun _ hS => Yld.eql hS rfl rfl) ?_
    refine qN hR ?_
    intro aa hS
    refine wpList_nil ?_
    refine hK905 _ _ ?_
    refine hS.splitB (t := 46) rfl ?_ ?_ <;> clear hS
    ·
     intro hg hS
     refine condT hS rfl ?_
     refine wp_region_lit ?_
     revert aa
     refine qM hR ?_
     refine qM hR ?_
     intro aa hS
     refine sB (Bcall hS rfl Tryz.call25 (adClose_ok (x := x % S) hD.f.w (hR.pk (r := deskA _ _ _ _ _ _) pkQ)) (by decide) ?_); clear hS; intro aa ww vv hS hp
     clear hR
     obtain ⟨rfl, hR⟩ := hp
     refine wpList_nil ?_
     refine hK897 _ _ ?_
     refine wp_seq_k ?_; intro K906 hK906
     refine wp_region_lit ?_
     refine sA hS hR (Yld.build hS rfl (bld43_)) (by decide) ?_; clear hS; intro aa hS
     refine sB (Bstore hS hR rfl rfl (by rfl) info43 (by rfl) pkQ (by rfl) (Nat.le_of_ble_eq_true rfl) ?_); clear hR; intro ww hR
     revert aa
     refine qN hR ?_
     intro aa hS
     refine wpList_nil ?_
     refine hK906 _ _ ?_
     refine wp_ret ?_
     repeat first | with_reducible refine thenR ?_ | with_reducible refine blockR ?_ | with_reducible refine scopeR ?_
     refine retN (fn := Tryz.f13) (e := .ret) (.inl rfl) Tryz.results13 hS hR ⟨_, .cons (.agg rfl Tryz.underlying43 rfl info43 (Rds.cons (Rd.blk pkQ (by rfl)) (Rds.cons (Rd.blk pkQ (by rfl)) (Rds.cons (Rd.blk pkQ (by rfl)) (Rds.cons (Rd.blk pkQ (by rfl)) (Rds.nil))))) (by rfl)) (.cons (.tmp rfl) (.nil)), rfl, ?_⟩
     have hk : ¬ (k % 8 = 4 ∨ k % 8 = 7) := by omega
     have hst : doD S lim t p u D k a x = ((0, 0, 0, false), false, cloN D (x % S)) := by unfold doD; rw [if_neg hk, if_neg (by omega), if_pos (by omega)]
     rw [hst]
     try dsimp only [lay, List.set] at hR
     exact ⟨rfl, (hR.sub exQ)⟩
    ·
     intro hg hS
     refine condF hS rfl ?_
     refine wp_seq_k ?_; intro K907 hK907
     refine drawn krQ hR (Ex.of_pk (r := deskA _ _ _ _ _ _) pkQ) ?_; clear hR; intro ww hR hR0
     revert aa
     refine eA 0 rfl krQ (fun _ _ _ h => h) hR0 rfl (fun _ hS => Yld.move hS rfl) ?_
     refine eA 1 rfl krQ (fun _ _ _ h => h) hR0 rfl (fun _ hS => Yld.move hS rfl) ?_
     refine eA 3 rfl krQ (fun _ _ _ h => h) hR0 rfl (fun _ hS => Yld.fieldAddr hS rfl 2 Tryz.underlying27 rfl rfl info3 (by decide)) ?_
     refine eA 4 rfl krQ (fun _ _ _ h => h) hR0 rfl (fun _ hS => Yld.load1 hS rfl Tryz.underlying3 rfl rdQ) ?_
     refine eA 7 rfl krQ (fun _ _ _ h => h) hR0 rfl (fun _ hS => Yld.fieldAddr hS rfl 1 Tryz.underlying27 rfl rfl info25 (by decide)) ?_
     refine eA 8 rfl krQ (fun _ _ _ h => h) hR0 rfl (fun _ hS => Yld.load1 hS rfl Tryz.underlying25 rfl rdQ) ?_
     refine eA 9 rfl krQ (fun _ _ _ h => h) hR0 rfl (fun _ hS => by first | exact Yld.rem64 hS rfl rfl (by omega) | exact Yld.rem hS rfl rfl (by omega)) ?_
     intro aa hS
     refine dTwo (i := 2) (j := 14) krQ ?_ ?_
     ·
      refine dop rfl (Bcall hS rfl Tryz.call28 (adNow_ok (hR.pk (r := deskA _ _ _ _ _ _) pkQ)) (by decide) ?_); clear hS; intro aa ww vv hS hp
      clear hR hR0
      obtain ⟨rfl, hR⟩ := hp
      refine dnext (hR.sub exQ) ?_; intro hR0
      refine dTwo (i := 5) (j := 14) krQ ?_ ?_
      ·
       refine dop rfl (Bcall hS rfl Tryz.call10 (modulo_ok (n := x) (m := 40) (by omega) hR) (by decide) ?_); clear hS; intro aa ww vv hS hp
       clear hR hR0
       obtain ⟨rfl, hR⟩ := hp
       refine dnext (hR.sub exQ) ?_; intro hR0
       refine dA 6 rfl krQ krQ krQ (fun _ _ _ h => h) hS hR0 adQ (by decide) ?_; clear hS; intro aa hS
       refine dTwo (i := 10) (j := 14) krQ ?_ ?_
       ·
        refine dop rfl (Bcall hS rfl Tryz.call20 (adTry_ok (n := D.now + x % 40) (a := a % 6) hD.f (by omega) (by omega) (by omega) (hR.pk (r := deskA _ _ _ _ _ _) pkQ)) (by decide) ?_); clear hS; intro aa ww vv hS hp
        clear hR hR0
        obtain ⟨rfl, hR⟩ := hp
        rw [hy] at hS hR
        unfold tryV at hS
        rw [hye] at hS
        refine dnext (hR.sub exQ) ?_; intro hR0
        revert aa
        refine eA 11 rfl krQ (fun _ _ _ h => h) hR0 rfl (fun _ hS => Yld.move hS rfl) ?_
        refine eA 12 rfl krQ (fun _ _ _ h => h) hR0 rfl (fun _ hS => Yld.extract hS rfl rfl) ?_
        refine eA 13 rfl krQ (fun _ _ _ h => h) hR0 rfl (fun _ hS => Yld.extract hS rfl rfl) ?_
        intro aa hS
        refine dOne (i := 14) krQ ?_
        refine dop rfl (Balloc hS hR info43 (by rfl) (by rfl) (by decide) ?_); clear hS hR hR0; intro aa ww bb9 hS hR
        refine dnext (hR.sub exQ) ?_; intro hR0
        refine dOne (i := 15) krQ ?_
        refine dop rfl (Bstore hS hR rfl rfl (by rfl) info43 (by rfl) pkQ (by rfl) (Nat.le_of_ble_eq_true rfl) ?_); clear hR hR0; intro ww hR
        refine dnext (hR.sub exQ) ?_; intro hR0
        revert aa
        refine eA 16 rfl krQ (fun _ _ _ h => h) hR0 rfl (fun _ hS => Yld.assign hS rfl) ?_
        intro aa hS
        refine wpAnyH_done krQ ?_ _; clear hR0
        refine hK907 _ _ ?_
        refine wp_seq_k ?_; intro K908 hK908
        refine wp_region_lit ?_
        refine sA hS hR (Yld.loadAgg hS rfl Tryz.underlying43 rfl info43 rdsQ4 (by rfl)) (by decide) ?_; clear hS; intro aa hS
        revert aa
        refine qM hR ?_
        refine qA hR rfl (fun _ hS => Yld.eql hS rfl rfl) ?_
        refine qB (t := 34) true rfl (by rfl) ?_
        intro aa hS
        refine sB (Bstore hS hR rfl rfl (by rfl) info43 (by rfl) pkQ (by rfl) (Nat.le_of_ble_eq_true rfl) ?_); clear hR; intro ww hR
        revert aa
        refine qN hR ?_
        intro aa hS
        refine wpList_nil ?_
        refine hK908 _ _ ?_
        refine wp_ret ?_
        repeat first | with_reducible refine thenR ?_ | with_reducible refine blockR ?_ | with_reducible refine scopeR ?_
        refine retN (fn := Tryz.f13) (e := .ret) (.inl rfl) Tryz.results13 hS hR ⟨_, .cons (.agg rfl Tryz.underlying43 rfl info43 (Rds.cons (Rd.blk pkQ (by rfl)) (Rds.cons (Rd.blk pkQ (by rfl)) (Rds.cons (Rd.blk pkQ (by rfl)) (Rds.cons (Rd.blk pkQ (by rfl)) (Rds.nil))))) (by rfl)) (.cons (.tmp rfl) (.nil)), rfl, ?_⟩
        have hk : ¬ (k % 8 = 4 ∨ k % 8 = 7) := by omega
        have hst : doD S lim t p u D k a x = ((y.1.1, y.1.2.1, y.1.2.2.1, y.1.2.2.2.1), true, y.2) := by unfold doD; rw [if_neg hk, if_neg (by omega), if_neg (by omega), hy]
        rw [hst]
        try dsimp only [lay, List.set] at hR
        exact ⟨rfl, (hR.sub exQ)⟩
       ·
        refine dop rfl (Balloc hS hR info43 (by rfl) (by rfl) (by decide) ?_); clear hS hR hR0; intro aa ww bb9 hS hR
        refine dnext (hR.sub exQ) ?_; intro hR0
        refine dOne (i := 10) krQ ?_
        refine dop rfl (Bcall hS rfl Tryz.call20 (adTry_ok (n := D.now + x % 40) (a := a % 6) hD.f (by omega) (by omega) (by omega) (hR.pk (r := deskA _ _ _ _ _ _) pkQ)) (by decide) ?_); clear hS; intro aa ww vv hS hp
        clear hR hR0
        obtain ⟨rfl, hR⟩ := hp
        rw [hy] at hS hR
        unfold tryV at hS
        rw [hye] at hS
        refine dnext (hR.sub exQ) ?_; intro hR0
        revert aa
        refine eA 11 rfl krQ (fun _ _ _ h => h) hR0 rfl (fun _ hS => Yld.move hS rfl) ?_
        refine eA 12 rfl krQ (fun _ _ _ h => h) hR0 rfl (fun _ hS => Yld.extract hS rfl rfl) ?_
        refine eA 13 rfl krQ (fun _ _ _ h => h) hR0 rfl (fun _ hS => Yld.extract hS rfl rfl) ?_
        intro aa hS
        refine dOne (i := 15) krQ ?_
        refine dop rfl (Bstore hS hR rfl rfl (by rfl) info43 (by rfl) pkQ (by rfl) (Nat.le_of_ble_eq_true rfl) ?_); clear hR hR0; intro ww hR
        refine dnext (hR.sub exQ) ?_; intro hR0
        revert aa
        refine eA 16 rfl krQ (fun _ _ _ h => h) hR0 rfl (fun _ hS => Yld.assign hS rfl) ?_
        intro aa hS
        refine wpAnyH_done krQ ?_ _; clear hR0
        refine hK907 _ _ ?_
        refine wp_seq_k ?_; intro K909 hK909
        refine wp_region_lit ?_
        refine sA hS hR (Yld.loadAgg hS rfl Tryz.underlying43 rfl info43 rdsQ4 (by rfl)) (by decide) ?_; clear hS; intro aa hS
        revert aa
        refine qM hR ?_
        refine qA hR rfl (fun _ hS => Yld.eql hS rfl rfl) ?_
        refine qB (t := 34) true rfl (by rfl) ?_
        intro aa hS
        refine sB (Bstore hS hR rfl rfl (by rfl) info43 (by rfl) pkQ (by rfl) (Nat.le_of_ble_eq_true rfl) ?_); clear hR; intro ww hR
        revert aa
        refine qN hR ?_
        intro aa hS
        refine wpList_nil ?_
        refine hK909 _ _ ?_
        refine wp_ret ?_
        repeat first | with_reducible refine thenR ?_ | with_reducible refine blockR ?_ | with_reducible refine scopeR ?_
        refine retN (fn := Tryz.f13) (e := .ret) (.inl rfl) Tryz.results13 hS hR ⟨_, .cons (.agg rfl Tryz.underlying43 rfl info43 (Rds.cons (Rd.blk pkQ (by rfl)) (Rds.cons (Rd.blk pkQ (by rfl)) (Rds.cons (Rd.blk pkQ (by rfl)) (Rds.cons (Rd.blk pkQ (by rfl)) (Rds.nil))))) (by rfl)) (.cons (.tmp rfl) (.nil)), rfl, ?_⟩
        have hk : ¬ (k % 8 = 4 ∨ k % 8 = 7) := by omega
        have hst : doD S lim t p u D k a x = ((y.1.1, y.1.2.1, y.1.2.2.1, y.1.2.2.2.1), true, y.2) := by unfold doD; rw [if_neg hk, if_neg (by omega), if_neg (by omega), hy]
        rw [hst]
        try dsimp only [lay, List.set] at hR
        exact ⟨rfl, (hR.sub exQ)⟩
      ·
       refine dop rfl (Balloc hS hR info43 (by rfl) (by rfl) (by decide) ?_); clear hS hR hR0; intro aa ww bb9 hS hR
       refine dnext (hR.sub exQ) ?_; intro hR0
       refine dOne (i := 5) krQ ?_
       refine dop rfl (Bcall hS rfl Tryz.call10 (modulo_ok (n := x) (m := 40) (by omega) hR) (by decide) ?_); clear hS; intro aa ww vv hS hp
       clear hR hR0
       obtain ⟨rfl, hR⟩ := hp
       refine dnext (hR.sub exQ) ?_; intro hR0
       refine dA 6 rfl krQ krQ krQ (fun _ _ _ h => h) hS hR0 adQ (by decide) ?_; clear hS; intro aa hS
       refine dOne (i := 10) krQ ?_
       refine dop rfl (Bcall hS rfl Tryz.call20 (adTry_ok (n := D.now + x % 40) (a := a % 6) hD.f (by omega) (by omega) (by omega) (hR.pk (r := deskA _ _ _ _ _ _) pkQ)) (by decide) ?_); clear hS; intro aa ww vv hS hp
       clear hR hR0
       obtain ⟨rfl, hR⟩ := hp
       rw [hy] at hS hR
       unfold tryV at hS
       rw [hye] at hS
       refine dnext (hR.sub exQ) ?_; intro hR0
       revert aa
       refine eA 11 rfl krQ (fun _ _ _ h => h) hR0 rfl (fun _ hS => Yld.move hS rfl) ?_
       refine eA 12 rfl krQ (fun _ _ _ h => h) hR0 rfl (fun _ hS => Yld.extract hS rfl rfl) ?_
       refine eA 13 rfl krQ (fun _ _ _ h => h) hR0 rfl (fun _ hS => Yld.extract hS rfl rfl) ?_
       intro aa hS
       refine dOne (i := 15) krQ ?_
       refine dop rfl (Bstore hS hR rfl rfl (by rfl) info43 (by rfl) pkQ (by rfl) (Nat.le_of_ble_eq_true rfl) ?_); clear hR hR0; intro ww hR
       refine dnext (hR.sub exQ) ?_; intro hR0
       revert aa
       refine eA 16 rfl krQ (fun _ _ _ h => h) hR0 rfl (fun _ hS => Yld.assign hS rfl) ?_
       intro aa hS
       refine wpAnyH_done krQ ?_ _; clear hR0
       refine hK907 _ _ ?_
       refine wp_seq_k ?_; intro K910 hK910
       refine wp_region_lit ?_
       refine sA hS hR (Yld.loadAgg hS rfl Tryz.underlying43 rfl info43 rdsQ4 (by rfl)) (by decide) ?_; clear hS; intro aa hS
       revert aa
       refine qM hR ?_
       refine qA hR rfl (fun _ hS => Yld.eql hS rfl rfl) ?_
       refine qB (t := 34) true rfl (by rfl) ?_
       intro aa hS
       refine sB (Bstore hS hR rfl rfl (by rfl) info43 (by rfl) pkQ (by rfl) (Nat.le_of_ble_eq_true rfl) ?_); clear hR; intro ww hR
       revert aa
       refine qN hR ?_
       intro aa hS
       refine wpList_nil ?_
       refine hK910 _ _ ?_
       refine wp_ret ?_
       repeat first | with_reducible refine thenR ?_ | with_reducible refine blockR ?_ | with_reducible refine scopeR ?_
       refine retN (fn := Tryz.f13) (e := .ret) (.inl rfl) Tryz.results13 hS hR ⟨_, .cons (.agg rfl Tryz.underlying43 rfl info43 (Rds.cons (Rd.blk pkQ (by rfl)) (Rds.cons (Rd.blk pkQ (by rfl)) (Rds.cons (Rd.blk pkQ (by rfl)) (Rds.cons (Rd.blk pkQ (by rfl)) (Rds.nil))))) (by rfl)) (.cons (.tmp rfl) (.nil)), rfl, ?_⟩
       have hk : ¬ (k % 8 = 4 ∨ k % 8 = 7) := by omega
       have hst : doD S lim t p u D k a x = ((y.1.1, y.1.2.1, y.1.2.2.1, y.1.2.2.2.1), true, y.2) := by unfold doD; rw [if_neg hk, if_neg (by omega), if_neg (by omega), hy]
       rw [hst]
       try dsimp only [lay, List.set] at hR
       exact ⟨rfl, (hR.sub exQ)⟩
     ·
      refine dop rfl (Balloc hS hR info43 (by rfl) (by rfl) (by decide) ?_); clear hS hR hR0; intro aa ww bb9 hS hR
      refine dnext (hR.sub exQ) ?_; intro hR0
      refine dOne (i := 2) krQ ?_
      refine dop rfl (Bcall hS rfl Tryz.call28 (adNow_ok (hR.pk (r := deskA _ _ _ _ _ _) pkQ)) (by decide) ?_); clear hS; intro aa ww vv hS hp
      clear hR hR0
      obtain ⟨rfl, hR⟩ := hp
      refine dnext (hR.sub exQ) ?_; intro hR0
      refine dOne (i := 5) krQ ?_
      refine dop rfl (Bcall hS rfl Tryz.call10 (modulo_ok (n := x) (m := 40) (by omega) hR) (by decide) ?_); clear hS; intro aa ww vv hS hp
      clear hR hR0
      obtain ⟨rfl, hR⟩ := hp
      refine dnext (hR.sub exQ) ?_; intro hR0
      refine dA 6 rfl krQ krQ krQ (fun _ _ _ h => h) hS hR0 adQ (by decide) ?_; clear hS; intro aa hS
      refine dOne (i := 10) krQ ?_
      refine dop rfl (Bcall hS rfl Tryz.call20 (adTry_ok (n := D.now + x % 40) (a := a % 6) hD.f (by omega) (by omega) (by omega) (hR.pk (r := deskA _ _ _ _ _ _) pkQ)) (by decide) ?_); clear hS; intro aa ww vv hS hp
      clear hR hR0
      obtain ⟨rfl, hR⟩ := hp
      rw [hy] at hS hR
      unfold tryV at hS
      rw [hye] at hS
      refine dnext (hR.sub exQ) ?_; intro hR0
      revert aa
      refine eA 11 rfl krQ (fun _ _ _ h => h) hR0 rfl (fun _ hS => Yld.move hS rfl) ?_
      refine eA 12 rfl krQ (fun _ _ _ h => h) hR0 rfl (fun _ hS => Yld.extract hS rfl rfl) ?_
      refine eA 13 rfl krQ (fun _ _ _ h => h) hR0 rfl (fun _ hS => Yld.extract hS rfl rfl) ?_
      intro aa hS
      refine dOne (i := 15) krQ ?_
      refine dop rfl (Bstore hS hR rfl rfl (by rfl) info43 (by rfl) pkQ (by rfl) (Nat.le_of_ble_eq_true rfl) ?_); clear hR hR0; intro ww hR
      refine dnext (hR.sub exQ) ?_; intro hR0
      revert aa
      refine eA 16 rfl krQ (fun _ _ _ h => h) hR0 rfl (fun _ hS => Yld.assign hS rfl) ?_
      intro aa hS
      refine wpAnyH_done krQ ?_ _; clear hR0
      refine hK907 _ _ ?_
      refine wp_seq_k ?_; intro K911 hK911
      refine wp_region_lit ?_
      refine sA hS hR (Yld.loadAgg hS rfl Tryz.underlying43 rfl info43 rdsQ4 (by rfl)) (by decide) ?_; clear hS; intro aa hS
      revert aa
      refine qM hR ?_
      refine qA hR rfl (fun _ hS => Yld.eql hS rfl rfl) ?_
      refine qB (t := 34) true rfl (by rfl) ?_
      intro aa hS
      refine sB (Bstore hS hR rfl rfl (by rfl) info43 (by rfl) pkQ (by rfl) (Nat.le_of_ble_eq_true rfl) ?_); clear hR; intro ww hR
      revert aa
      refine qN hR ?_
      intro aa hS
      refine wpList_nil ?_
      refine hK911 _ _ ?_
      refine wp_ret ?_
      repeat first | with_reducible refine thenR ?_ | with_reducible refine blockR ?_ | with_reducible refine scopeR ?_
      refine retN (fn := Tryz.f13) (e := .ret) (.inl rfl) Tryz.results13 hS hR ⟨_, .cons (.agg rfl Tryz.underlying43 rfl info43 (Rds.cons (Rd.blk pkQ (by rfl)) (Rds.cons (Rd.blk pkQ (by rfl)) (Rds.cons (Rd.blk pkQ (by rfl)) (Rds.cons (Rd.blk pkQ (by rfl)) (Rds.nil))))) (by rfl)) (.cons (.tmp rfl) (.nil)), rfl, ?_⟩
      have hk : ¬ (k % 8 = 4 ∨ k % 8 = 7) := by omega
      have hst : doD S lim t p u D k a x = ((y.1.1, y.1.2.1, y.1.2.2.1, y.1.2.2.2.1), true, y.2) := by unfold doD; rw [if_neg hk, if_neg (by omega), if_neg (by omega), hy]
      rw [hst]
      try dsimp only [lay, List.set] at hR
      exact ⟨rfl, (hR.sub exQ)⟩
set_option maxHeartbeats 1000000 in
theorem made_ok {W : World} {q : Option Addr} {n c : Nat} {n0 n1 n2 n3 n4 : Int} {xs : List (List Int)} (A1 : ArgS W [.u8, .u32, .i64] q n c xs) {l : List HP} {w : World} (h0 : 0 ≤ n0 ∧ n0 ≤ 255) (h1 : 0 ≤ n1 ∧ n1 ≤ 255) (h2 : 0 ≤ n2 ∧ n2 ≤ 255) (h3 : 0 ≤ n3 ∧ n3 ≤ 255) (h4 : 0 ≤ n4 ∧ n4 ≤ 255) (hR : Sep (old W :: l) w) : CallR Tryz.prog 8 [.agg [.int .u8 n0, .int .u8 n1, .int .u8 n2, .int .u8 n3, .int .u8 n4].toArray, .slice q n c] w (fun v w' => ∃ (b S lim : Nat) (t p u : Int) (D : Dk), v = .tuple [.pointer (some ⟨b, 0, none⟩), .agg [.int .i64 (S : Int), .int .i64 (lim : Int), .int .i64 t, .int .i64 p, .int .i64 u].toArray].toArray ∧ (S : Int) = 1 + n0 % 20 ∧ (lim : Int) = 1 + n1 % 8 ∧ t = 1 + n2 % 3 ∧ p = 1 + n3 % 20 ∧ u = 1 + n4 % 6 ∧ MD S lim t p u 80 D ∧ Sep (deskA dd b S lim (t, p, u) D :: old W :: l) w') := by
 refine enter Tryz.func8 rfl Tryz.ntmps8 (Nat.le_of_ble_eq_true rfl) ?_; intro aa hS
 have hcap := A1.cap
 obtain ⟨S, hSe, hS1, hS2⟩ : ∃ y : Nat, 1 + n0 % 20 = (y : Int) ∧ 1 ≤ y ∧ y ≤ 20 := ⟨(1 + n0 % 20).toNat, by omega, by omega, by omega⟩
 obtain ⟨lim, hle, hl1, hl2⟩ : ∃ y : Nat, 1 + n1 % 8 = (y : Int) ∧ 1 ≤ y ∧ y ≤ 8 := ⟨(1 + n1 % 8).toNat, by omega, by omega, by omega⟩
 obtain ⟨t, ht⟩ : ∃ y, 1 + n2 % 3 = y := ⟨_, rfl⟩
 obtain ⟨p, hp⟩ : ∃ y, 1 + n3 % 20 = y := ⟨_, rfl⟩
 obtain ⟨u, hu⟩ : ∃ y, 1 + n4 % 6 = y := ⟨_, rfl⟩
 have hRR : RR t p u := by unfold RR; omega
 have hM0 := MD.new (S := S) (lim := lim) hS1 (by omega) hRR ⟨hl1, by omega⟩
 refine wp_seq_k ?_; intro K912 hK912
 refine wp_region_lit ?_
 refine sB (Bbox hS hR rfl (by rfl) (by decide) ?_); clear hS hR; intro aa ww bb2 hS hR
 revert aa
 refine qN hR ?_
 intro aa hS
 refine sB (Balloc hS hR info33 (by rfl) (by rfl) (by decide) ?_); clear hS hR; intro aa ww bb5 hS hR
 refine wpList_nil ?_
 refine hK912 _ _ ?_
 refine wp_seq_k ?_; intro K913 hK913
 refine wp_region_lit ?_
 refine sA hS hR (Yld.loadAgg hS rfl Tryz.underlying23 rfl info23 rdsQ5 (by rfl)) (by decide) ?_; clear hS; intro aa hS
 refine sB (Bcall hS rfl Tryz.call35 (of_ok h0 h1 h2 h3 h4 hR) (by decide) ?_); clear hS; intro aa ww vv hS hp
 clear hR
 obtain ⟨rfl, hR⟩ := hp
 rw [hSe, hle, ht, hp, hu] at hS
 refine sB (Balloc hS hR info33 (by rfl) (by rfl) (by decide) ?_); clear hS hR; intro aa ww bb6 hS hR
 refine sB (Bstore hS hR rfl rfl (by rfl) info33 (by rfl) pkQ (by rfl) (Nat.le_of_ble_eq_true rfl) ?_); clear hR; intro ww hR
 refine wpList_nil ?_
 refine hK913 _ _ ?_
 refine wp_seq_k ?_; intro K914 hK914
 refine wp_region_lit ?_
 refine sA hS hR (Yld.loadAgg hS rfl Tryz.underlying33 rfl info33 rdsQ5 (by rfl)) (by decide) ?_; clear hS; intro aa hS
 refine sB (Bcall hS rfl Tryz.call34 (adNew_ok (S := S) (lim := lim) hS1 (by omega) hl1 (by omega) hRR hR) (by decide) ?_); clear hS; intro aa ww vv hS hp
 clear hR
 obtain ⟨b, rfl, hR⟩ := hp
 change Sep (deskA dd b S lim (t, p, u) (D0 S) :: _) _ at hR
 revert aa
 refine qM hR ?_
 refine qX hR ?_
 refine qX hR ?_
 refine qN hR ?_
 refine qN hR ?_
 intro aa hS
 refine wpList_nil ?_
 refine hK914 _ _ ?_
 refine wp_seq_k ?_; intro K915 hK915
 refine wp_seq_k ?_; intro K916 hK916
 refine wp_region_lit ?_
 revert aa
 refine qM hR ?_
 refine qA hR rfl (fun _ hS => Yld.eqlNil hS rfl rfl Tryz.underlying29) ?_
 refine qB (t := 19) false rfl (by rfl) ?_
 intro aa hS
 refine wpList_nil ?_
 refine hK916 _ _ ?_
 refine condF hS rfl ?_
 refine wp_skip ?_
 refine hK915 _ _ ?_
 refine wp_seq_k ?_; intro K917 hK917
 refine wp_seq_k ?_; intro K918 hK918
 refine wp_region_lit ?_
 revert aa
 refine qM hR ?_
 refine qM hR ?_
 refine qA hR rfl (fun _ hS => Yld.len hS rfl Tryz.underlying24) ?_
 refine qA hR rfl (fun _ hS => Yld.min hS rfl rfl) ?_
 refine qA hR rfl (fun _ hS => Yld.sliceHi hS rfl rfl Tryz.underlying24 info27 (by omega) (by omega)) ?_
 intro aa hS
 obtain ⟨mm, hmm0, hmm1⟩ : ∃ y : Nat, (Min.min (n : Int) 80).toNat = y ∧ y ≤ n ∧ y ≤ 80 := ⟨_, rfl, by omega, by omega⟩
 replace hS := hS.say (t := 25) (.slice q mm c) rfl (by rw [hmm0])
 revert aa
 refine qA hR rfl (fun _ hS => Yld.len hS rfl Tryz.underlying24) ?_
 refine qM hR ?_
 intro aa hS
 refine wpList_nil ?_
 refine hK918 _ _ ?_
 refine wp_block ?_
 rw [show D0 S = fD S lim t p u (D0 S) xs 0 from fD_zero.symm] at hR
 replace hR := hR.pk (r := deskA dd b S lim (t, p, u) (fD S lim t p u (D0 S) xs 0)) pkQ
 refine loopI (X := Nat) [(4, _), (5, _), (6, _), (7, _), (25, _), (26, _)] (fun x => [(27, .int .i64 (x : Int))]) (fun x => [deskA dd b S lim (t, p, u) (fD S lim t p u (D0 S) xs x)]) _ (fun x => x ≤ mm ∧ MD S lim t p u x (fD S lim t p u (D0 S) xs x)) (fun x => mm - x) 0 ⟨Nat.zero_le _, by rw [fD_zero]; exact hM0⟩ (hS.le (Le.cons rfl (Le.nilapp (Le.cons rfl (Le.cons rfl (Le.cons rfl (Le.cons rfl (Le.cons rfl (Le.cons rfl (Le.nil _)))))))))) hR ?_
 clear hS hR; rintro k aa ww hI hS hR; dsimp only [List.cons_append, List.nil_append] at hI hS hR
 refine wp_seq_k ?_; intro K920 hK920
 refine wp_region_lit ?_
 refine sA hS hR (Yld.lss hS rfl rfl) (by decide) ?_; clear hS; intro aa hS
 refine wpList_nil ?_
 refine hK920 _ _ ?_
 refine wp_seq_k ?_; intro K921 hK921
 refine hS.splitB (t := 28) rfl ?_ ?_ <;> clear hS
 ·
  intro hg hS
  refine condT hS rfl ?_
  refine wp_skip ?_
  refine hK921 _ _ ?_
  refine wp_seq_k ?_; intro K922 hK922
  refine wp_block ?_
  refine wp_seq_k ?_; intro K923 hK923
  refine wp_region_lit ?_
  obtain ⟨ba, ia, ns, hq, hx, hl, hw, hc⟩ := A1.at (k := k) (by omega)
  obtain ⟨s0, s1, s2, rfl⟩ := len3 hl
  subst hq
  have hw0 : 0 ≤ s0 ∧ s0 ≤ 255 := hw.1
  have hw1 : 0 ≤ s1 ∧ s1 ≤ 4294967295 := hw.2.1
  revert aa
  refine qA hR rfl (fun _ hS => by first | exact Yld.indexL (sz := 3) _ hS rfl rfl Tryz.underlying24 info27 pkQ rfl rfl (by omega) | exact Yld.indexB (sz := 3) _ hS rfl rfl Tryz.underlying24 info27 rfl rfl (by omega) | exact Yld.indexSlice hS rfl rfl Tryz.underlying24 info27 (by omega) (by omega)) ?_
  refine qA hR rfl (fun _ hS => Yld.loadAgg (vs := [.int .u8 s0, .int .u32 s1, .int .i64 s2]) hS rfl Tryz.underlying27 rfl info27 (Rds.at (Rds.old pkQ hc) (by rfl)) (by rfl)) ?_
  intro aa hS
  refine sB (Balloc hS hR info27 (by rfl) (by rfl) (by decide) ?_); clear hS hR; intro aa ww bb10 hS hR
  refine sB (Bstore hS hR rfl rfl (by rfl) info27 (by rfl) pkQ (by rfl) (Nat.le_of_ble_eq_true rfl) ?_); clear hR; intro ww hR
  refine wpList_nil ?_
  refine hK923 _ _ ?_
  refine wp_region_lit ?_
  revert aa
  refine qM hR ?_
  refine qA hR rfl (fun _ hS => Yld.fieldAddr hS rfl 0 Tryz.underlying33 rfl rfl info3 (by decide)) ?_
  refine qA hR rfl (fun _ hS => Yld.load1 hS rfl Tryz.underlying3 rfl rdQ) ?_
  intro aa hS
  refine sA hS hR (Yld.loadAgg hS rfl Tryz.underlying27 rfl info27 rdsQ3 (by rfl)) (by decide) ?_; clear hS; intro aa hS
  refine sB (Bcall hS rfl Tryz.call13 (do_ok (k := s0) (a := s1) (x := s2) (D := fD S lim t p u (D0 S) xs k) hI.2 (by omega) hS1 (by omega) hw0 hw1 (hR.pk (r := deskA _ _ _ _ _ _) pkQ)) (by decide) ?_); clear hS; intro aa ww vv hS hp
  clear hR
  obtain ⟨rfl, hR⟩ := hp
  rw [← fD_succ hx] at hR
  refine wpList_nil ?_
  refine hK922 _ _ ?_
  refine wp_region_lit ?_
  refine sA hS hR adQ (by decide) ?_; clear hS; intro aa hS
  revert aa
  refine qM hR ?_
  intro aa hS
  refine wpList_nil ?_
  refine ⟨k + 1, ?_, ?_, hS.le (Le.cons rfl (Le.nilapp (Le.cons rfl (Le.cons rfl (Le.cons rfl (Le.cons rfl (Le.cons rfl (Le.cons rfl (Le.nil _))))))))), hR.sub (Ex.take pkQ (Ex.nilapp exQ))⟩
  ·
   exact ⟨by omega, by rw [fD_succ hx]; exact hI.2.do hw1.1 (by omega)⟩
  ·
   omega
 ·
  intro hg hS
  obtain rfl : mm = k := by omega
  refine condF hS rfl ?_
  refine wp_exit ?_
  refine hK917 _ _ ?_
  refine wp_seq_k ?_; intro K924 hK924
  refine drawn krQ hR (Ex.of_pk (r := blk bb5 _ _) pkQ) ?_; clear hR; intro ww hR hR0
  revert aa
  refine eA 0 rfl krQ (fun _ _ _ h => h) hR0 rfl (fun _ hS => Yld.move hS rfl) ?_
  intro aa hS
  refine dA 1 rfl krQ krQ krQ (fun _ _ _ h => h) hS hR0 (Yld.loadAgg hS rfl Tryz.underlying33 rfl info33 rdsQ5 (by rfl)) (by decide) ?_; clear hS; intro aa hS
  revert aa
  refine eA 2 rfl krQ (fun _ _ _ h => h) hR0 rfl (fun _ hS => Yld.assign hS rfl) ?_
  intro aa hS
  refine dOne (i := 3) krQ ?_
  refine dop rfl (Bstore hS hR rfl rfl (by rfl) info33 (by rfl) pkQ (by rfl) (Nat.le_of_ble_eq_true rfl) ?_); clear hR hR0; intro ww hR
  refine dnext (hR.sub exQ) ?_; intro hR0
  refine wpAnyH_done krQ ?_ _; clear hR0
  refine hK924 _ _ ?_
  refine wp_ret ?_
  repeat first | with_reducible refine thenR ?_ | with_reducible refine blockR ?_ | with_reducible refine scopeR ?_
  refine retN (fn := Tryz.f8) (e := .ret) (.inl rfl) Tryz.results8 hS hR ⟨_, .cons (.tmp rfl) (.cons (.agg rfl Tryz.underlying33 rfl info33 (Rds.cons (Rd.blk pkQ (by rfl)) (Rds.cons (Rd.blk pkQ (by rfl)) (Rds.cons (Rd.blk pkQ (by rfl)) (Rds.cons (Rd.blk pkQ (by rfl)) (Rds.cons (Rd.blk pkQ (by rfl)) (Rds.nil)))))) (by rfl)) (.nil)), rfl, ?_⟩
  exact ⟨b, S, lim, t, p, u, _, rfl, hSe.symm, hle.symm, ht.symm, hp.symm, hu.symm, hI.2.le (by omega), (hR.sub exQ)⟩
end Go.Proofs.YtkhdejjompbklaaGreat.Sx
