/-
 
-/
import Derived.Test.YtkhdejjompbklaaGreatRows
import Derived.Test.YtkhdejjompbklaaGreatOPm
namespace Go.Proofs.YtkhdejjompbklaaGreat.Sx
open Go
set_option maxRecDepth 20000
set_option linter.unusedVariables false
set_option linter.unusedSimpArgs false
theorem info3 : Tryz.prog.info? 3 = some Tryz.t3 := by kernel_rfl
theorem info31 : Tryz.prog.info? 31 = some Tryz.t31 := by kernel_rfl
theorem info67 : Tryz.prog.info? 67 = some Tryz.t67 := by kernel_rfl
theorem bld31_  (w : World) : (Instr.build 31 [].toArray).run Tryz.prog w = .ok (.agg [.int .i64 0, .int .i64 0, .int .i64 0].toArray) w := by kernel_rfl
theorem bld67_  (w : World) : (Instr.build 67 [].toArray).run Tryz.prog w = .ok (.agg [.int .i64 0, .int .i64 0].toArray) w := by kernel_rfl
theorem bld67_0_1 (x0 : Int) (x1 : Int) (w : World) : (Instr.build 67 [(0, .int .i64 x0), (1, .int .i64 x1)].toArray).run Tryz.prog w = .ok (.agg [.int .i64 x0, .int .i64 x1].toArray) w := by kernel_rfl
theorem bls36_1_0 (x0 : Int) (w : World) : (Instr.buildSlice 36 1 [(0, .int .i64 x0)].toArray).run Tryz.prog w = .ok (.slice (some ⟨w.heap.size, 0, none⟩) 1 1) (w.alloc (.cells ([.int .i64 x0] : List Value).toArray 3)) := by kernel_rfl
theorem bls36_2_0_1 (x0 : Int) (x1 : Int) (w : World) : (Instr.buildSlice 36 2 [(0, .int .i64 x0), (1, .int .i64 x1)].toArray).run Tryz.prog w = .ok (.slice (some ⟨w.heap.size, 0, none⟩) 2 2) (w.alloc (.cells ([.int .i64 x0, .int .i64 x1] : List Value).toArray 3)) := by kernel_rfl
theorem neq31 (o1 o2 : Operand) (x_0 : Int) (x_1 : Int) (x_2 : Int) (y_0 : Int) (y_1 : Int) (y_2 : Int) (w : World) : (do eqGuard .neq 31 o1 o2 (.agg [.int .i64 x_0, .int .i64 x_1, .int .i64 x_2].toArray) (.agg [.int .i64 y_0, .int .i64 y_1, .int .i64 y_2].toArray); binOp .neq 31 (.agg [.int .i64 x_0, .int .i64 x_1, .int .i64 x_2].toArray) (.agg [.int .i64 y_0, .int .i64 y_1, .int .i64 y_2].toArray) : Sem Value).run Tryz.prog w = .ok (.bool (!decide (x_0 = y_0 ∧ x_1 = y_1 ∧ x_2 = y_2))) w := by
 by_cases h0 : x_0 = y_0
 ·
  skip
  by_cases h1 : x_1 = y_1
  ·
   skip
   by_cases h2 : x_2 = y_2
   ·
    simp [go_sem, h0, h1, h2]
   ·
    simp [go_sem, h0, h1, h2]
  ·
   simp [go_sem, h0, h1]
 ·
  simp [go_sem, h0]
theorem bkwithin_ok {m : Int} {xs : List Int} {n sb : Nat} {cs : List Value} {l l2 : List HP} {w : World} (hR : Sep l w) (pk : Pk (blk sb cs 3) l l2) (hc : cs = xs.map (.int .i64)) (hn : n = xs.length) (hl : xs.length < 1000) : CallR Tryz.prog 109 [.int .i64 m, .slice (some ⟨sb, 0, none⟩) n n] w (fun v w' => v = .bool (within m xs) ∧ Sep l w') := by
 refine enter Tryz.func109 rfl Tryz.ntmps109 (Nat.le_of_ble_eq_true rfl) ?_; intro aa hS
 subst hc hn
 refine wp_seq_k ?_; intro K1 hK1
 refine wp_region_lit ?_
 refine sA hS hR (Yld.assign hS rfl) (by decide) ?_; clear hS; intro aa hS
 refine wpList_nil ?_
 refine hK1 _ _ ?_
 refine wp_seq_k ?_; intro K2 hK2
 refine wp_seq_k ?_; intro K3 hK3
 refine wp_region_lit ?_
 refine sA hS hR (Yld.move hS rfl) (by decide) ?_; clear hS; intro aa hS
 refine sA hS hR (Yld.len hS rfl Tryz.underlying36) (by decide) ?_; clear hS; intro aa hS
 refine sA hS hR (Yld.move hS rfl) (by decide) ?_; clear hS; intro aa hS
 refine wpList_nil ?_
 refine hK3 _ _ ?_
 refine wp_block ?_
 refine loopI (X := Nat) (without [4, 6, 9, 10, 11, 12, 13, 14, 15, 16, 17, 18, 19, 20] _) (fun x => [(9, .int .i64 (x : Int))]) (fun x => []) _ (fun x => x ≤ xs.length ∧ ∀ n ∈ xs.take x, 1 ≤ n ∧ n ≤ m) (fun x => xs.length - x) 0 (by simp) (hS.le (by refine (Le.cons rfl (Le.nilapp (Le.without _ _))))) hR ?_
 clear hS hR; rintro k aa ww hI hS hR; dsimp only [List.cons_append, List.nil_append] at hI hS hR
 refine wp_seq_k ?_; intro K5 hK5
 refine wp_region_lit ?_
 refine sA hS hR (Yld.lss hS rfl rfl) (by decide) ?_; clear hS; intro aa hS
 refine wpList_nil ?_
 refine hK5 _ _ ?_
 refine wp_seq_k ?_; intro K6 hK6
 refine hS.splitB (t := 10) rfl ?_ ?_ <;> clear hS
 ·
  intro hg hS
  refine condT hS rfl ?_
  refine wp_skip ?_
  refine hK6 _ _ ?_
  refine wp_seq_k ?_; intro K7 hK7
  refine wp_block ?_
  refine wp_seq_k ?_; intro K8 hK8
  refine wp_region_lit ?_
  refine sA hS hR (Yld.indexSlice hS rfl rfl Tryz.underlying36 info3 (by omega) (by omega)) (by decide) ?_; clear hS; intro aa hS
  have hk : k < xs.length := by omega
  refine sA hS hR (Yld.load1 hS rfl Tryz.underlying3 rfl (Rd.blk pk (v := .int .i64 xs[k]) (by simp [show Tryz.t3.size = 1 from rfl, hk]))) (by decide) ?_; clear hS; intro aa hS
  refine sA hS hR (Yld.assign hS rfl) (by decide) ?_; clear hS; intro aa hS
  refine wpList_nil ?_
  refine hK8 _ _ ?_
  refine wp_seq_k ?_; intro K9 hK9
  refine wp_region_lit ?_
  refine sA hS hR (Yld.move hS rfl) (by decide) ?_; clear hS; intro aa hS
  refine sA hS hR (Yld.lss hS rfl rfl) (by decide) ?_; clear hS; intro aa hS
  refine sA hS hR (Yld.move hS rfl) (by decide) ?_; clear hS; intro aa hS
  refine hS.splitB (t := 15) rfl ?_ ?_ <;> clear hS
  ·
   intro hg hS
   refine sSkip hS rfl rfl rfl (by decide) ?_; clear hS; intro aa hS
   refine sSkip hS rfl rfl rfl (by decide) ?_; clear hS; intro aa hS
   refine sSkip hS rfl rfl rfl (by decide) ?_; clear hS; intro aa hS
   refine sA hS hR (Yld.pickT hS rfl rfl) (by decide) ?_; clear hS; intro aa hS
   refine wpList_nil ?_
   refine hK9 _ _ ?_
   refine condT hS rfl ?_
   refine wp_seq_k ?_; intro K10 hK10
   refine wp_region_lit ?_
   refine sA hS hR (Yld.assign hS rfl) (by decide) ?_; clear hS; intro aa hS
   refine wpList_nil ?_
   refine hK10 _ _ ?_
   refine wp_ret ?_
   repeat (first | with_reducible refine thenR ?_ | with_reducible refine blockR ?_ | with_reducible refine scopeR ?_)
   refine ret1 (fn := Tryz.f109) (e := .ret) (.inl rfl) Tryz.results109 hS hR ⟨_, (.tmp rfl), ?_⟩
   first | exact ⟨by rw [within_false hk (by omega)], (hR.sub (by repeat (first | with_reducible exact Ex.refl | with_reducible apply Ex.drop)))⟩ | exact ⟨by rw [within_true hI.2 (by omega)], (hR.sub (by repeat (first | with_reducible exact Ex.refl | with_reducible apply Ex.drop)))⟩
  ·
   intro hg hS
   refine sAg hS hR rfl rfl (Yld.move hS rfl) (by decide) ?_; clear hS; intro aa hS
   refine sAg hS hR rfl rfl (Yld.move hS rfl) (by decide) ?_; clear hS; intro aa hS
   refine sAg hS hR rfl rfl (Yld.gtr hS rfl rfl) (by decide) ?_; clear hS; intro aa hS
   refine sA hS hR (Yld.pickF hS rfl rfl) (by decide) ?_; clear hS; intro aa hS
   refine wpList_nil ?_
   refine hK9 _ _ ?_
   refine hS.splitB (t := 19) rfl ?_ ?_ <;> clear hS
   ·
    intro hg hS
    refine condT hS rfl ?_
    refine wp_seq_k ?_; intro K11 hK11
    refine wp_region_lit ?_
    refine sA hS hR (Yld.assign hS rfl) (by decide) ?_; clear hS; intro aa hS
    refine wpList_nil ?_
    refine hK11 _ _ ?_
    refine wp_ret ?_
    repeat (first | with_reducible refine thenR ?_ | with_reducible refine blockR ?_ | with_reducible refine scopeR ?_)
    refine ret1 (fn := Tryz.f109) (e := .ret) (.inl rfl) Tryz.results109 hS hR ⟨_, (.tmp rfl), ?_⟩
    first | exact ⟨by rw [within_false hk (by omega)], (hR.sub (by repeat (first | with_reducible exact Ex.refl | with_reducible apply Ex.drop)))⟩ | exact ⟨by rw [within_true hI.2 (by omega)], (hR.sub (by repeat (first | with_reducible exact Ex.refl | with_reducible apply Ex.drop)))⟩
   ·
    intro hg hS
    refine condF hS rfl ?_
    refine wp_skip ?_
    refine hK7 _ _ ?_
    refine wp_region_lit ?_
    refine sA hS hR ((by first | exact Yld.add64 hS rfl rfl (by omega) | exact Yld.add hS rfl rfl)) (by decide) ?_; clear hS; intro aa hS
    refine sA hS hR (Yld.move hS rfl) (by decide) ?_; clear hS; intro aa hS
    refine wpList_nil ?_
    refine ⟨k + 1, ?_, ?_, hS.le (Le.cons rfl (Le.nilapp (by repeat (first | with_reducible exact Le.refl _ | refine Le.skip (lk_without rfl) ?_)))), hR.sub (Ex.nilapp (by repeat (first | with_reducible exact Ex.refl | with_reducible apply Ex.drop)))⟩
    ·
     exact ⟨by omega, take_snoc hk hI.2 (by omega)⟩
    ·
     omega
 ·
  intro hg hS
  refine condF hS rfl ?_
  refine wp_exit ?_
  refine hK2 _ _ ?_
  refine wp_seq_k ?_; intro K12 hK12
  refine wp_region_lit ?_
  refine sA hS hR (Yld.assign hS rfl) (by decide) ?_; clear hS; intro aa hS
  refine wpList_nil ?_
  refine hK12 _ _ ?_
  refine wp_ret ?_
  repeat (first | with_reducible refine thenR ?_ | with_reducible refine blockR ?_ | with_reducible refine scopeR ?_)
  refine ret1 (fn := Tryz.f109) (e := .ret) (.inl rfl) Tryz.results109 hS hR ⟨_, (.tmp rfl), ?_⟩
  first | exact ⟨by rw [within_false hk (by omega)], (hR.sub (by repeat (first | with_reducible exact Ex.refl | with_reducible apply Ex.drop)))⟩ | exact ⟨by rw [within_true hI.2 (by omega)], (hR.sub (by repeat (first | with_reducible exact Ex.refl | with_reducible apply Ex.drop)))⟩
theorem bkmost_ok {t p b : Int} {l : List HP} {w : World} (hR : Sep l w) : CallR Tryz.prog 101 [.agg [.int .i64 t, .int .i64 p, .int .i64 b].toArray] w (fun v w' => v = .int .i64 (IntKind.i64.wrap (b * p)) ∧ Sep l w') := by
 refine enter Tryz.func101 rfl Tryz.ntmps101 (Nat.le_of_ble_eq_true rfl) ?_; intro aa hS
 refine wp_seq_k ?_; intro K13 hK13
 refine wp_region_lit ?_
 refine sB (Bbox hS hR rfl (by rfl) (by decide) ?_); clear hS hR; intro aa ww bb1 hS hR
 refine sA hS hR (Yld.assign hS rfl) (by decide) ?_; clear hS; intro aa hS
 refine wpList_nil ?_
 refine hK13 _ _ ?_
 refine wp_seq_k ?_; intro K14 hK14
 refine wp_region_lit ?_
 refine sA hS hR (Yld.fieldAddr hS rfl 2 Tryz.underlying31 rfl rfl info3 (by decide)) (by decide) ?_; clear hS; intro aa hS
 refine sA hS hR (Yld.load1 hS rfl Tryz.underlying3 rfl (Rd.blk pkQ (by rfl))) (by decide) ?_; clear hS; intro aa hS
 refine sA hS hR (Yld.fieldAddr hS rfl 1 Tryz.underlying31 rfl rfl info3 (by decide)) (by decide) ?_; clear hS; intro aa hS
 refine sA hS hR (Yld.load1 hS rfl Tryz.underlying3 rfl (Rd.blk pkQ (by rfl))) (by decide) ?_; clear hS; intro aa hS
 refine sA hS hR (Yld.mul hS rfl rfl) (by decide) ?_; clear hS; intro aa hS
 refine sA hS hR (Yld.assign hS rfl) (by decide) ?_; clear hS; intro aa hS
 refine wpList_nil ?_
 refine hK14 _ _ ?_
 refine wp_ret ?_
 repeat (first | with_reducible refine thenR ?_ | with_reducible refine blockR ?_ | with_reducible refine scopeR ?_)
 refine ret1 (fn := Tryz.f101) (e := .ret) (.inl rfl) Tryz.results101 hS hR ⟨_, (.tmp rfl), ?_⟩
 exact ⟨rfl, (hR.sub (by repeat (first | with_reducible exact Ex.refl | with_reducible apply Ex.drop)))⟩
theorem bkRightRate_ok {t p b : Int} {l : List HP} {w : World} (hR : Sep l w) : CallR Tryz.prog 69 [.agg [.int .i64 t, .int .i64 p, .int .i64 b].toArray] w (fun v w' => v = .bool (decide (RR t p b)) ∧ Sep l w') := by
 refine enter Tryz.func69 rfl Tryz.ntmps69 (Nat.le_of_ble_eq_true rfl) ?_; intro aa hS
 refine wp_seq_k ?_; intro K15 hK15
 refine wp_region_lit ?_
 refine sB (Bbox hS hR rfl (by rfl) (by decide) ?_); clear hS hR; intro aa ww bb1 hS hR
 refine sA hS hR (Yld.assign hS rfl) (by decide) ?_; clear hS; intro aa hS
 refine wpList_nil ?_
 refine hK15 _ _ ?_
 refine wp_seq_k ?_; intro K16 hK16
 refine wp_region_lit ?_
 refine sA hS hR (Yld.loadAgg hS rfl Tryz.underlying31 rfl info31 (Rds.cons (Rd.blk pkQ (by rfl)) (Rds.cons (Rd.blk pkQ (by rfl)) (Rds.cons (Rd.blk pkQ (by rfl)) (Rds.nil)))) (by rfl)) (by decide) ?_; clear hS; intro aa hS
 refine sA hS hR (Yld.build hS rfl (bld31_)) (by decide) ?_; clear hS; intro aa hS
 refine sA hS hR (Yld.binRun hS rfl rfl (neq31 _ _ _ _ _ _ _ _)) (by decide) ?_; clear hS; intro aa hS
 refine sA hS hR (Yld.move hS rfl) (by decide) ?_; clear hS; intro aa hS
 refine hS.splitB (t := 6) rfl ?_ ?_ <;> clear hS
 ·
  intro hg hS
  refine sAg hS hR rfl rfl (Yld.fieldAddr hS rfl 0 Tryz.underlying31 rfl rfl info3 (by decide)) (by decide) ?_; clear hS; intro aa hS
  refine sAg hS hR rfl rfl (Yld.load1 hS rfl Tryz.underlying3 rfl (Rd.blk pkQ (by rfl))) (by decide) ?_; clear hS; intro aa hS
  refine sAg hS hR rfl rfl (Yld.fieldAddr hS rfl 2 Tryz.underlying31 rfl rfl info3 (by decide)) (by decide) ?_; clear hS; intro aa hS
  refine sAg hS hR rfl rfl (Yld.load1 hS rfl Tryz.underlying3 rfl (Rd.blk pkQ (by rfl))) (by decide) ?_; clear hS; intro aa hS
  refine sBg hS rfl rfl (BbuildSlice hS hR rfl (bls36_2_0_1 _ _) (by decide) ?_); clear hS hR; intro aa ww bb11 hS hR
  refine sBg hS rfl rfl (Bcall hS rfl Tryz.call109 (bkwithin_ok hR pkQ (xs := [t, b]) (by rfl) rfl (by simp)) (by decide) ?_); clear hS; intro aa ww vv hS hp
  clear hR
  obtain ⟨rfl, hR⟩ := hp
  refine sA hS hR (Yld.pickT hS rfl rfl) (by decide) ?_; clear hS; intro aa hS
  refine sA hS hR (Yld.move hS rfl) (by decide) ?_; clear hS; intro aa hS
  refine hS.splitB (t := 14) rfl ?_ ?_ <;> clear hS
  ·
   intro hg hS
   refine sAg hS hR rfl rfl (Yld.fieldAddr hS rfl 1 Tryz.underlying31 rfl rfl info3 (by decide)) (by decide) ?_; clear hS; intro aa hS
   refine sAg hS hR rfl rfl (Yld.load1 hS rfl Tryz.underlying3 rfl (Rd.blk pkQ (by rfl))) (by decide) ?_; clear hS; intro aa hS
   refine sBg hS rfl rfl (BbuildSlice hS hR rfl (bls36_1_0 _) (by decide) ?_); clear hS hR; intro aa ww bb17 hS hR
   refine sBg hS rfl rfl (Bcall hS rfl Tryz.call109 (bkwithin_ok hR pkQ (xs := [p]) (by rfl) rfl (by simp)) (by decide) ?_); clear hS; intro aa ww vv hS hp
   clear hR
   obtain ⟨rfl, hR⟩ := hp
   refine sA hS hR (Yld.pickT hS rfl rfl) (by decide) ?_; clear hS; intro aa hS
   refine sA hS hR (Yld.assign hS rfl) (by decide) ?_; clear hS; intro aa hS
   refine wpList_nil ?_
   refine hK16 _ _ ?_
   refine wp_ret ?_
   repeat (first | with_reducible refine thenR ?_ | with_reducible refine blockR ?_ | with_reducible refine scopeR ?_)
   refine ret1 (fn := Tryz.f69) (e := .ret) (.inl rfl) Tryz.results69 hS hR ⟨_, (.tmp rfl), ?_⟩
   try simp only [within, List.all_cons, List.all_nil, Bool.and_true, Bool.and_eq_true, Bool.and_eq_false_iff, decide_eq_true_eq, decide_eq_false_iff_not] at *
   refine ⟨?_, (hR.sub (by repeat (first | with_reducible exact Ex.refl | with_reducible apply Ex.drop)))⟩
   first | exact dec_no (by unfold RR; omega) | exact dec_iff (by unfold RR; omega)
  ·
   intro hg hS
   refine sSkip hS rfl rfl rfl (by decide) ?_; clear hS; intro aa hS
   refine sSkip hS rfl rfl rfl (by decide) ?_; clear hS; intro aa hS
   refine sSkip hS rfl rfl rfl (by decide) ?_; clear hS; intro aa hS
   refine sSkip hS rfl rfl rfl (by decide) ?_; clear hS; intro aa hS
   refine sA hS hR (Yld.pickF hS rfl rfl) (by decide) ?_; clear hS; intro aa hS
   refine sA hS hR (Yld.assign hS rfl) (by decide) ?_; clear hS; intro aa hS
   refine wpList_nil ?_
   refine hK16 _ _ ?_
   refine wp_ret ?_
   repeat (first | with_reducible refine thenR ?_ | with_reducible refine blockR ?_ | with_reducible refine scopeR ?_)
   refine ret1 (fn := Tryz.f69) (e := .ret) (.inl rfl) Tryz.results69 hS hR ⟨_, (.tmp rfl), ?_⟩
   try simp only [within, List.all_cons, List.all_nil, Bool.and_true, Bool.and_eq_true, Bool.and_eq_false_iff, decide_eq_true_eq, decide_eq_false_iff_not] at *
   refine ⟨?_, (hR.sub (by repeat (first | with_reducible exact Ex.refl | with_reducible apply Ex.drop)))⟩
   first | exact dec_no (by unfold RR; omega) | exact dec_iff (by unfold RR; omega)
 ·
  intro hg hS
  refine sSkip hS rfl rfl rfl (by decide) ?_; clear hS; intro aa hS
  refine sSkip hS rfl rfl rfl (by decide) ?_; clear hS; intro aa hS
  refine sSkip hS rfl rfl rfl (by decide) ?_; clear hS; intro aa hS
  refine sSkip hS rfl rfl rfl (by decide) ?_; clear hS; intro aa hS
  refine sSkip hS rfl rfl rfl (by decide) ?_; clear hS; intro aa hS
  refine sSkip hS rfl rfl rfl (by decide) ?_; clear hS; intro aa hS
  refine sA hS hR (Yld.pickF hS rfl rfl) (by decide) ?_; clear hS; intro aa hS
  refine sA hS hR (Yld.move hS rfl) (by decide) ?_; clear hS; intro aa hS
  refine sSkip hS rfl rfl rfl (by decide) ?_; clear hS; intro aa hS
  refine sSkip hS rfl rfl rfl (by decide) ?_; clear hS; intro aa hS
  refine sSkip hS rfl rfl rfl (by decide) ?_; clear hS; intro aa hS
  refine sSkip hS rfl rfl rfl (by decide) ?_; clear hS; intro aa hS
  refine sA hS hR (Yld.pickF hS rfl rfl) (by decide) ?_; clear hS; intro aa hS
  refine sA hS hR (Yld.assign hS rfl) (by decide) ?_; clear hS; intro aa hS
  refine wpList_nil ?_
  refine hK16 _ _ ?_
  refine wp_ret ?_
  repeat (first | with_reducible refine thenR ?_ | with_reducible refine blockR ?_ | with_reducible refine scopeR ?_)
  refine ret1 (fn := Tryz.f69) (e := .ret) (.inl rfl) Tryz.results69 hS hR ⟨_, (.tmp rfl), ?_⟩
  try simp only [within, List.all_cons, List.all_nil, Bool.and_true, Bool.and_eq_true, Bool.and_eq_false_iff, decide_eq_true_eq, decide_eq_false_iff_not] at *
  refine ⟨?_, (hR.sub (by repeat (first | with_reducible exact Ex.refl | with_reducible apply Ex.drop)))⟩
  first | exact dec_no (by unfold RR; omega) | exact dec_iff (by unfold RR; omega)
theorem bkRight_ok {t p b lv at_ : Int} {l : List HP} {w : World} (hR : Sep l w) : CallR Tryz.prog 62 [.agg [.int .i64 t, .int .i64 p, .int .i64 b].toArray, .agg [.int .i64 lv, .int .i64 at_].toArray] w (fun v w' => v = .bool (decide (RB t p b lv at_)) ∧ Sep l w') := by
 refine enter Tryz.func62 rfl Tryz.ntmps62 (Nat.le_of_ble_eq_true rfl) ?_; intro aa hS
 refine wp_seq_k ?_; intro K17 hK17
 refine wp_region_lit ?_
 refine sB (Bbox hS hR rfl (by rfl) (by decide) ?_); clear hS hR; intro aa ww bb2 hS hR
 refine sB (Bbox hS hR rfl (by rfl) (by decide) ?_); clear hS hR; intro aa ww bb3 hS hR
 refine sA hS hR (Yld.assign hS rfl) (by decide) ?_; clear hS; intro aa hS
 refine wpList_nil ?_
 refine hK17 _ _ ?_
 refine wp_seq_k ?_; intro K18 hK18
 refine drawn krQ hR Ex.refl ?_; clear hR; intro ww hR hR0
 refine dA 0 rfl krQ krQ krQ (fun _ _ _ h => h) hS hR0 (Yld.loadAgg hS rfl Tryz.underlying31 rfl info31 (Rds.cons (Rd.blk pkQ (by rfl)) (Rds.cons (Rd.blk pkQ (by rfl)) (Rds.cons (Rd.blk pkQ (by rfl)) (Rds.nil)))) (by rfl)) (by decide) ?_; clear hS; intro aa hS
 refine dOne (i := 1) krQ ?_
 refine dop rfl (Bcall hS rfl Tryz.call69 (bkRightRate_ok hR) (by decide) ?_); clear hS; intro aa ww vv hS hp
 clear hR hR0
 obtain ⟨rfl, hR⟩ := hp
 refine dnext (hR.sub (by repeat (first | with_reducible exact Ex.refl | with_reducible apply Ex.drop))) ?_; intro hR0
 refine dA 2 rfl krQ krQ krQ (fun _ _ _ h => h) hS hR0 (Yld.move hS rfl) (by decide) ?_; clear hS; intro aa hS
 refine hS.splitB (t := 7) rfl ?_ ?_ <;> clear hS
 ·
  intro hg hS
  have hm := RR.most hg
  refine dAg 3 rfl krQ krQ krQ (fun _ _ _ h => h) hS rfl rfl hR0 (Yld.fieldAddr hS rfl 0 Tryz.underlying67 rfl rfl info3 (by decide)) (by decide) ?_; clear hS; intro aa hS
  refine dAg 4 rfl krQ krQ krQ (fun _ _ _ h => h) hS rfl rfl hR0 (Yld.load1 hS rfl Tryz.underlying3 rfl (Rd.blk pkQ (by rfl))) (by decide) ?_; clear hS; intro aa hS
  refine dAg 5 rfl krQ krQ krQ (fun _ _ _ h => h) hS rfl rfl hR0 (Yld.geq hS rfl rfl) (by decide) ?_; clear hS; intro aa hS
  refine dA 6 rfl krQ krQ krQ (fun _ _ _ h => h) hS hR0 (Yld.pickT hS rfl rfl) (by decide) ?_; clear hS; intro aa hS
  refine dA 7 rfl krQ krQ krQ (fun _ _ _ h => h) hS hR0 (Yld.move hS rfl) (by decide) ?_; clear hS; intro aa hS
  refine hS.splitB (t := 12) rfl ?_ ?_ <;> clear hS
  ·
   intro hg hS
   refine dAg 8 rfl krQ krQ krQ (fun _ _ _ h => h) hS rfl rfl hR0 (Yld.fieldAddr hS rfl 0 Tryz.underlying67 rfl rfl info3 (by decide)) (by decide) ?_; clear hS; intro aa hS
   refine dAg 9 rfl krQ krQ krQ (fun _ _ _ h => h) hS rfl rfl hR0 (Yld.load1 hS rfl Tryz.underlying3 rfl (Rd.blk pkQ (by rfl))) (by decide) ?_; clear hS; intro aa hS
   refine dAg 10 rfl krQ krQ krQ (fun _ _ _ h => h) hS rfl rfl hR0 (Yld.loadAgg hS rfl Tryz.underlying31 rfl info31 (Rds.cons (Rd.blk pkQ (by rfl)) (Rds.cons (Rd.blk pkQ (by rfl)) (Rds.cons (Rd.blk pkQ (by rfl)) (Rds.nil)))) (by rfl)) (by decide) ?_; clear hS; intro aa hS
   refine dOne (i := 11) krQ ?_
   refine dopg rfl hS rfl rfl (Bcall hS rfl Tryz.call101 (bkmost_ok hR) (by decide) ?_); clear hS; intro aa ww vv hS hp
   clear hR hR0
   obtain ⟨rfl, hR⟩ := hp
   refine dnext (hR.sub (by repeat (first | with_reducible exact Ex.refl | with_reducible apply Ex.drop))) ?_; intro hR0
   replace hS := hS.say (t := 16) (.int .i64 (b * p)) rfl (by rw [IntWalk.i64_in _ (by omega)])
   refine dAg 12 rfl krQ krQ krQ (fun _ _ _ h => h) hS rfl rfl hR0 (Yld.leq hS rfl rfl) (by decide) ?_; clear hS; intro aa hS
   refine dA 13 rfl krQ krQ krQ (fun _ _ _ h => h) hS hR0 (Yld.pickT hS rfl rfl) (by decide) ?_; clear hS; intro aa hS
   refine dA 14 rfl krQ krQ krQ (fun _ _ _ h => h) hS hR0 (Yld.move hS rfl) (by decide) ?_; clear hS; intro aa hS
   refine hS.splitB (t := 19) rfl ?_ ?_ <;> clear hS
   ·
    intro hg hS
    refine dAg 15 rfl krQ krQ krQ (fun _ _ _ h => h) hS rfl rfl hR0 (Yld.fieldAddr hS rfl 1 Tryz.underlying67 rfl rfl info3 (by decide)) (by decide) ?_; clear hS; intro aa hS
    refine dAg 16 rfl krQ krQ krQ (fun _ _ _ h => h) hS rfl rfl hR0 (Yld.load1 hS rfl Tryz.underlying3 rfl (Rd.blk pkQ (by rfl))) (by decide) ?_; clear hS; intro aa hS
    refine dAg 17 rfl krQ krQ krQ (fun _ _ _ h => h) hS rfl rfl hR0 (Yld.geq hS rfl rfl) (by decide) ?_; clear hS; intro aa hS
    refine dA 18 rfl krQ krQ krQ (fun _ _ _ h => h) hS hR0 (Yld.pickT hS rfl rfl) (by decide) ?_; clear hS; intro aa hS
    refine dA 19 rfl krQ krQ krQ (fun _ _ _ h => h) hS hR0 (Yld.move hS rfl) (by decide) ?_; clear hS; intro aa hS
    refine hS.splitB (t := 24) rfl ?_ ?_ <;> clear hS
    ·
     intro hg hS
     refine dAg 20 rfl krQ krQ krQ (fun _ _ _ h => h) hS rfl rfl hR0 (Yld.fieldAddr hS rfl 1 Tryz.underlying67 rfl rfl info3 (by decide)) (by decide) ?_; clear hS; intro aa hS
     refine dAg 21 rfl krQ krQ krQ (fun _ _ _ h => h) hS rfl rfl hR0 (Yld.load1 hS rfl Tryz.underlying3 rfl (Rd.blk pkQ (by rfl))) (by decide) ?_; clear hS; intro aa hS
     refine dAg 22 rfl krQ krQ krQ (fun _ _ _ h => h) hS rfl rfl hR0 (Yld.leq hS rfl rfl) (by decide) ?_; clear hS; intro aa hS
     refine dA 23 rfl krQ krQ krQ (fun _ _ _ h => h) hS hR0 (Yld.pickT hS rfl rfl) (by decide) ?_; clear hS; intro aa hS
     refine dA 24 rfl krQ krQ krQ (fun _ _ _ h => h) hS hR0 (Yld.assign hS rfl) (by decide) ?_; clear hS; intro aa hS
     refine wpAnyH_done krQ ?_ _; clear hR0
     refine hK18 _ _ ?_
     refine wp_ret ?_
     repeat (first | with_reducible refine thenR ?_ | with_reducible refine blockR ?_ | with_reducible refine scopeR ?_)
     refine ret1 (fn := Tryz.f62) (e := .ret) (.inl rfl) Tryz.results62 hS hR ⟨_, (.tmp rfl), ?_⟩
     refine ⟨?_, (hR.sub (by repeat (first | with_reducible exact Ex.refl | with_reducible apply Ex.drop)))⟩
     first | exact dec_no (fun h => by obtain ⟨h1, h2, h3, h4, h5⟩ := h; first | contradiction | omega) | exact dec_iff ⟨fun h => ⟨by assumption, by omega, by omega, by omega, by omega⟩, fun h => h.2.2.2.2⟩
    ·
     intro hg hS
     refine dSkip 20 rfl krQ krQ krQ (fun _ _ _ h => h) hS rfl rfl rfl hR0 (by decide) ?_; clear hS; intro aa hS
     refine dSkip 21 rfl krQ krQ krQ (fun _ _ _ h => h) hS rfl rfl rfl hR0 (by decide) ?_; clear hS; intro aa hS
     refine dSkip 22 rfl krQ krQ krQ (fun _ _ _ h => h) hS rfl rfl rfl hR0 (by decide) ?_; clear hS; intro aa hS
     refine dA 23 rfl krQ krQ krQ (fun _ _ _ h => h) hS hR0 (Yld.pickF hS rfl rfl) (by decide) ?_; clear hS; intro aa hS
     refine dA 24 rfl krQ krQ krQ (fun _ _ _ h => h) hS hR0 (Yld.assign hS rfl) (by decide) ?_; clear hS; intro aa hS
     refine wpAnyH_done krQ ?_ _; clear hR0
     refine hK18 _ _ ?_
     refine wp_ret ?_
     repeat (first | with_reducible refine thenR ?_ | with_reducible refine blockR ?_ | with_reducible refine scopeR ?_)
     refine ret1 (fn := Tryz.f62) (e := .ret) (.inl rfl) Tryz.results62 hS hR ⟨_, (.tmp rfl), ?_⟩
     refine ⟨?_, (hR.sub (by repeat (first | with_reducible exact Ex.refl | with_reducible apply Ex.drop)))⟩
     first | exact dec_no (fun h => by obtain ⟨h1, h2, h3, h4, h5⟩ := h; first | contradiction | omega) | exact dec_iff ⟨fun h => ⟨by assumption, by omega, by omega, by omega, by omega⟩, fun h => h.2.2.2.2⟩
   ·
    intro hg hS
    refine dSkip 15 rfl krQ krQ krQ (fun _ _ _ h => h) hS rfl rfl rfl hR0 (by decide) ?_; clear hS; intro aa hS
    refine dSkip 16 rfl krQ krQ krQ (fun _ _ _ h => h) hS rfl rfl rfl hR0 (by decide) ?_; clear hS; intro aa hS
    refine dSkip 17 rfl krQ krQ krQ (fun _ _ _ h => h) hS rfl rfl rfl hR0 (by decide) ?_; clear hS; intro aa hS
    refine dA 18 rfl krQ krQ krQ (fun _ _ _ h => h) hS hR0 (Yld.pickF hS rfl rfl) (by decide) ?_; clear hS; intro aa hS
    refine dA 19 rfl krQ krQ krQ (fun _ _ _ h => h) hS hR0 (Yld.move hS rfl) (by decide) ?_; clear hS; intro aa hS
    refine dSkip 20 rfl krQ krQ krQ (fun _ _ _ h => h) hS rfl rfl rfl hR0 (by decide) ?_; clear hS; intro aa hS
    refine dSkip 21 rfl krQ krQ krQ (fun _ _ _ h => h) hS rfl rfl rfl hR0 (by decide) ?_; clear hS; intro aa hS
    refine dSkip 22 rfl krQ krQ krQ (fun _ _ _ h => h) hS rfl rfl rfl hR0 (by decide) ?_; clear hS; intro aa hS
    refine dA 23 rfl krQ krQ krQ (fun _ _ _ h => h) hS hR0 (Yld.pickF hS rfl rfl) (by decide) ?_; clear hS; intro aa hS
    refine dA 24 rfl krQ krQ krQ (fun _ _ _ h => h) hS hR0 (Yld.assign hS rfl) (by decide) ?_; clear hS; intro aa hS
    refine wpAnyH_done krQ ?_ _; clear hR0
    refine hK18 _ _ ?_
    refine wp_ret ?_
    repeat (first | with_reducible refine thenR ?_ | with_reducible refine blockR ?_ | with_reducible refine scopeR ?_)
    refine ret1 (fn := Tryz.f62) (e := .ret) (.inl rfl) Tryz.results62 hS hR ⟨_, (.tmp rfl), ?_⟩
    refine ⟨?_, (hR.sub (by repeat (first | with_reducible exact Ex.refl | with_reducible apply Ex.drop)))⟩
    first | exact dec_no (fun h => by obtain ⟨h1, h2, h3, h4, h5⟩ := h; first | contradiction | omega) | exact dec_iff ⟨fun h => ⟨by assumption, by omega, by omega, by omega, by omega⟩, fun h => h.2.2.2.2⟩
  ·
   intro hg hS
   refine dSkip 8 rfl krQ krQ krQ (fun _ _ _ h => h) hS rfl rfl rfl hR0 (by decide) ?_; clear hS; intro aa hS
   refine dSkip 9 rfl krQ krQ krQ (fun _ _ _ h => h) hS rfl rfl rfl hR0 (by decide) ?_; clear hS; intro aa hS
   refine dSkip 10 rfl krQ krQ krQ (fun _ _ _ h => h) hS rfl rfl rfl hR0 (by decide) ?_; clear hS; intro aa hS
   refine dSkip 11 rfl krQ krQ krQ (fun _ _ _ h => h) hS rfl rfl rfl hR0 (by decide) ?_; clear hS; intro aa hS
   refine dSkip 12 rfl krQ krQ krQ (fun _ _ _ h => h) hS rfl rfl rfl hR0 (by decide) ?_; clear hS; intro aa hS
   refine dA 13 rfl krQ krQ krQ (fun _ _ _ h => h) hS hR0 (Yld.pickF hS rfl rfl) (by decide) ?_; clear hS; intro aa hS
   refine dA 14 rfl krQ krQ krQ (fun _ _ _ h => h) hS hR0 (Yld.move hS rfl) (by decide) ?_; clear hS; intro aa hS
   refine dSkip 15 rfl krQ krQ krQ (fun _ _ _ h => h) hS rfl rfl rfl hR0 (by decide) ?_; clear hS; intro aa hS
   refine dSkip 16 rfl krQ krQ krQ (fun _ _ _ h => h) hS rfl rfl rfl hR0 (by decide) ?_; clear hS; intro aa hS
   refine dSkip 17 rfl krQ krQ krQ (fun _ _ _ h => h) hS rfl rfl rfl hR0 (by decide) ?_; clear hS; intro aa hS
   refine dA 18 rfl krQ krQ krQ (fun _ _ _ h => h) hS hR0 (Yld.pickF hS rfl rfl) (by decide) ?_; clear hS; intro aa hS
   refine dA 19 rfl krQ krQ krQ (fun _ _ _ h => h) hS hR0 (Yld.move hS rfl) (by decide) ?_; clear hS; intro aa hS
   refine dSkip 20 rfl krQ krQ krQ (fun _ _ _ h => h) hS rfl rfl rfl hR0 (by decide) ?_; clear hS; intro aa hS
   refine dSkip 21 rfl krQ krQ krQ (fun _ _ _ h => h) hS rfl rfl rfl hR0 (by decide) ?_; clear hS; intro aa hS
   refine dSkip 22 rfl krQ krQ krQ (fun _ _ _ h => h) hS rfl rfl rfl hR0 (by decide) ?_; clear hS; intro aa hS
   refine dA 23 rfl krQ krQ krQ (fun _ _ _ h => h) hS hR0 (Yld.pickF hS rfl rfl) (by decide) ?_; clear hS; intro aa hS
   refine dA 24 rfl krQ krQ krQ (fun _ _ _ h => h) hS hR0 (Yld.assign hS rfl) (by decide) ?_; clear hS; intro aa hS
   refine wpAnyH_done krQ ?_ _; clear hR0
   refine hK18 _ _ ?_
   refine wp_ret ?_
   repeat (first | with_reducible refine thenR ?_ | with_reducible refine blockR ?_ | with_reducible refine scopeR ?_)
   refine ret1 (fn := Tryz.f62) (e := .ret) (.inl rfl) Tryz.results62 hS hR ⟨_, (.tmp rfl), ?_⟩
   refine ⟨?_, (hR.sub (by repeat (first | with_reducible exact Ex.refl | with_reducible apply Ex.drop)))⟩
   first | exact dec_no (fun h => by obtain ⟨h1, h2, h3, h4, h5⟩ := h; first | contradiction | omega) | exact dec_iff ⟨fun h => ⟨by assumption, by omega, by omega, by omega, by omega⟩, fun h => h.2.2.2.2⟩
 ·
  intro hg hS
  refine dSkip 3 rfl krQ krQ krQ (fun _ _ _ h => h) hS rfl rfl rfl hR0 (by decide) ?_; clear hS; intro aa hS
  refine dSkip 4 rfl krQ krQ krQ (fun _ _ _ h => h) hS rfl rfl rfl hR0 (by decide) ?_; clear hS; intro aa hS
  refine dSkip 5 rfl krQ krQ krQ (fun _ _ _ h => h) hS rfl rfl rfl hR0 (by decide) ?_; clear hS; intro aa hS
  refine dA 6 rfl krQ krQ krQ (fun _ _ _ h => h) hS hR0 (Yld.pickF hS rfl rfl) (by decide) ?_; clear hS; intro aa hS
  refine dA 7 rfl krQ krQ krQ (fun _ _ _ h => h) hS hR0 (Yld.move hS rfl) (by decide) ?_; clear hS; intro aa hS
  refine dSkip 8 rfl krQ krQ krQ (fun _ _ _ h => h) hS rfl rfl rfl hR0 (by decide) ?_; clear hS; intro aa hS
  refine dSkip 9 rfl krQ krQ krQ (fun _ _ _ h => h) hS rfl rfl rfl hR0 (by decide) ?_; clear hS; intro aa hS
  refine dSkip 10 rfl krQ krQ krQ (fun _ _ _ h => h) hS rfl rfl rfl hR0 (by decide) ?_; clear hS; intro aa hS
  refine dSkip 11 rfl krQ krQ krQ (fun _ _ _ h => h) hS rfl rfl rfl hR0 (by decide) ?_; clear hS; intro aa hS
  refine dSkip 12 rfl krQ krQ krQ (fun _ _ _ h => h) hS rfl rfl rfl hR0 (by decide) ?_; clear hS; intro aa hS
  refine dA 13 rfl krQ krQ krQ (fun _ _ _ h => h) hS hR0 (Yld.pickF hS rfl rfl) (by decide) ?_; clear hS; intro aa hS
  refine dA 14 rfl krQ krQ krQ (fun _ _ _ h => h) hS hR0 (Yld.move hS rfl) (by decide) ?_; clear hS; intro aa hS
  refine dSkip 15 rfl krQ krQ krQ (fun _ _ _ h => h) hS rfl rfl rfl hR0 (by decide) ?_; clear hS; intro aa hS
  refine dSkip 16 rfl krQ krQ krQ (fun _ _ _ h => h) hS rfl rfl rfl hR0 (by decide) ?_; clear hS; intro aa hS
  refine dSkip 17 rfl krQ krQ krQ (fun _ _ _ h => h) hS rfl rfl rfl hR0 (by decide) ?_; clear hS; intro aa hS
  refine dA 18 rfl krQ krQ krQ (fun _ _ _ h => h) hS hR0 (Yld.pickF hS rfl rfl) (by decide) ?_; clear hS; intro aa hS
  refine dA 19 rfl krQ krQ krQ (fun _ _ _ h => h) hS hR0 (Yld.move hS rfl) (by decide) ?_; clear hS; intro aa hS
  refine dSkip 20 rfl krQ krQ krQ (fun _ _ _ h => h) hS rfl rfl rfl hR0 (by decide) ?_; clear hS; intro aa hS
  refine dSkip 21 rfl krQ krQ krQ (fun _ _ _ h => h) hS rfl rfl rfl hR0 (by decide) ?_; clear hS; intro aa hS
  refine dSkip 22 rfl krQ krQ krQ (fun _ _ _ h => h) hS rfl rfl rfl hR0 (by decide) ?_; clear hS; intro aa hS
  refine dA 23 rfl krQ krQ krQ (fun _ _ _ h => h) hS hR0 (Yld.pickF hS rfl rfl) (by decide) ?_; clear hS; intro aa hS
  refine dA 24 rfl krQ krQ krQ (fun _ _ _ h => h) hS hR0 (Yld.assign hS rfl) (by decide) ?_; clear hS; intro aa hS
  refine wpAnyH_done krQ ?_ _; clear hR0
  refine hK18 _ _ ?_
  refine wp_ret ?_
  repeat (first | with_reducible refine thenR ?_ | with_reducible refine blockR ?_ | with_reducible refine scopeR ?_)
  refine ret1 (fn := Tryz.f62) (e := .ret) (.inl rfl) Tryz.results62 hS hR ⟨_, (.tmp rfl), ?_⟩
  refine ⟨?_, (hR.sub (by repeat (first | with_reducible exact Ex.refl | with_reducible apply Ex.drop)))⟩
  first | exact dec_no (fun h => by obtain ⟨h1, h2, h3, h4, h5⟩ := h; first | contradiction | omega) | exact dec_iff ⟨fun h => ⟨by assumption, by omega, by omega, by omega, by omega⟩, fun h => h.2.2.2.2⟩
theorem bkFull_ok {t p b now : Int} {l : List HP} {w : World} (hR : Sep l w) : CallR Tryz.prog 59 [.agg [.int .i64 t, .int .i64 p, .int .i64 b].toArray, .int .i64 now] w (fun v w' => v = .tuple [.agg [.int .i64 (fullF t p b now).1, .int .i64 (fullF t p b now).2.1].toArray, .int .i64 (fullF t p b now).2.2].toArray ∧ Sep l w') := by
 refine enter Tryz.func59 rfl Tryz.ntmps59 (Nat.le_of_ble_eq_true rfl) ?_; intro aa hS
 refine wp_seq_k ?_; intro K19 hK19
 refine wp_region_lit ?_
 refine sB (Bbox hS hR rfl (by rfl) (by decide) ?_); clear hS hR; intro aa ww bb2 hS hR
 refine sB (Balloc hS hR info67 (by rfl) (by rfl) (by decide) ?_); clear hS hR; intro aa ww bb4 hS hR
 refine sA hS hR (Yld.assign hS rfl) (by decide) ?_; clear hS; intro aa hS
 refine wpList_nil ?_
 refine hK19 _ _ ?_
 refine wp_seq_k ?_; intro K20 hK20
 refine wp_seq_k ?_; intro K21 hK21
 refine wp_region_lit ?_
 refine sA hS hR (Yld.loadAgg hS rfl Tryz.underlying31 rfl info31 (Rds.cons (Rd.blk pkQ (by rfl)) (Rds.cons (Rd.blk pkQ (by rfl)) (Rds.cons (Rd.blk pkQ (by rfl)) (Rds.nil)))) (by rfl)) (by decide) ?_; clear hS; intro aa hS
 refine sB (Bcall hS rfl Tryz.call69 (bkRightRate_ok hR) (by decide) ?_); clear hS; intro aa ww vv hS hp
 clear hR
 obtain ⟨rfl, hR⟩ := hp
 refine sA hS hR (Yld.not hS rfl) (by decide) ?_; clear hS; intro aa hS
 refine sA hS hR (Yld.move hS rfl) (by decide) ?_; clear hS; intro aa hS
 refine hS.splitB (t := 9) rfl ?_ ?_ <;> clear hS
 ·
  intro hg hS
  refine sSkip hS rfl rfl rfl (by decide) ?_; clear hS; intro aa hS
  refine sSkip hS rfl rfl rfl (by decide) ?_; clear hS; intro aa hS
  refine sA hS hR (Yld.pickT hS rfl rfl) (by decide) ?_; clear hS; intro aa hS
  refine sA hS hR (Yld.move hS rfl) (by decide) ?_; clear hS; intro aa hS
  refine sSkip hS rfl rfl rfl (by decide) ?_; clear hS; intro aa hS
  refine sSkip hS rfl rfl rfl (by decide) ?_; clear hS; intro aa hS
  refine sA hS hR (Yld.pickT hS rfl rfl) (by decide) ?_; clear hS; intro aa hS
  refine wpList_nil ?_
  refine hK21 _ _ ?_
  refine condT hS rfl ?_
  refine wp_seq_k ?_; intro K22 hK22
  refine wp_region_lit ?_
  refine sA hS hR (Yld.build hS rfl (bld67_)) (by decide) ?_; clear hS; intro aa hS
  refine sB (Bstore hS hR rfl rfl (by rfl) info67 (by rfl) pkQ (by rfl) (Nat.le_of_ble_eq_true rfl) ?_); clear hR; intro ww hR
  refine sA hS hR (Yld.assign hS rfl) (by decide) ?_; clear hS; intro aa hS
  refine wpList_nil ?_
  refine hK22 _ _ ?_
  refine wp_ret ?_
  repeat (first | with_reducible refine thenR ?_ | with_reducible refine blockR ?_ | with_reducible refine scopeR ?_)
  refine retN (fn := Tryz.f59) (e := .ret) (.inl rfl) Tryz.results59 hS hR ⟨_, .cons (.agg rfl Tryz.underlying67 rfl info67 (Rds.cons (Rd.blk pkQ (by rfl)) (Rds.cons (Rd.blk pkQ (by rfl)) (Rds.nil))) (by rfl)) (.cons (.tmp rfl) (.nil)), rfl, ?_⟩
  refine ⟨?_, (hR.sub (by repeat (first | with_reducible exact Ex.refl | with_reducible apply Ex.drop)))⟩
  first | (rw [fullF, if_pos ⟨by assumption, by omega, by omega⟩]; first | rfl | (rw [IntWalk.i64_in _ (by have := RR.most ‹RR t p b›; omega)])) | rw [fullF, if_neg (fun h => by obtain ⟨h1, h2, h3⟩ := h; first | contradiction | omega)]
 ·
  intro hg hS
  refine sAg hS hR rfl rfl (Yld.move hS rfl) (by decide) ?_; clear hS; intro aa hS
  refine sAg hS hR rfl rfl (Yld.lss hS rfl rfl) (by decide) ?_; clear hS; intro aa hS
  refine sA hS hR (Yld.pickF hS rfl rfl) (by decide) ?_; clear hS; intro aa hS
  refine sA hS hR (Yld.move hS rfl) (by decide) ?_; clear hS; intro aa hS
  refine hS.splitB (t := 13) rfl ?_ ?_ <;> clear hS
  ·
   intro hg hS
   refine sSkip hS rfl rfl rfl (by decide) ?_; clear hS; intro aa hS
   refine sSkip hS rfl rfl rfl (by decide) ?_; clear hS; intro aa hS
   refine sA hS hR (Yld.pickT hS rfl rfl) (by decide) ?_; clear hS; intro aa hS
   refine wpList_nil ?_
   refine hK21 _ _ ?_
   refine condT hS rfl ?_
   refine wp_seq_k ?_; intro K23 hK23
   refine wp_region_lit ?_
   refine sA hS hR (Yld.build hS rfl (bld67_)) (by decide) ?_; clear hS; intro aa hS
   refine sB (Bstore hS hR rfl rfl (by rfl) info67 (by rfl) pkQ (by rfl) (Nat.le_of_ble_eq_true rfl) ?_); clear hR; intro ww hR
   refine sA hS hR (Yld.assign hS rfl) (by decide) ?_; clear hS; intro aa hS
   refine wpList_nil ?_
   refine hK23 _ _ ?_
   refine wp_ret ?_
   repeat (first | with_reducible refine thenR ?_ | with_reducible refine blockR ?_ | with_reducible refine scopeR ?_)
   refine retN (fn := Tryz.f59) (e := .ret) (.inl rfl) Tryz.results59 hS hR ⟨_, .cons (.agg rfl Tryz.underlying67 rfl info67 (Rds.cons (Rd.blk pkQ (by rfl)) (Rds.cons (Rd.blk pkQ (by rfl)) (Rds.nil))) (by rfl)) (.cons (.tmp rfl) (.nil)), rfl, ?_⟩
   refine ⟨?_, (hR.sub (by repeat (first | with_reducible exact Ex.refl | with_reducible apply Ex.drop)))⟩
   first | (rw [fullF, if_pos ⟨by assumption, by omega, by omega⟩]; first | rfl | (rw [IntWalk.i64_in _ (by have := RR.most ‹RR t p b›; omega)])) | rw [fullF, if_neg (fun h => by obtain ⟨h1, h2, h3⟩ := h; first | contradiction | omega)]
  ·
   intro hg hS
   refine sAg hS hR rfl rfl (Yld.move hS rfl) (by decide) ?_; clear hS; intro aa hS
   refine sAg hS hR rfl rfl (Yld.gtr hS rfl rfl) (by decide) ?_; clear hS; intro aa hS
   refine sA hS hR (Yld.pickF hS rfl rfl) (by decide) ?_; clear hS; intro aa hS
   refine wpList_nil ?_
   refine hK21 _ _ ?_
   refine hS.splitB (t := 16) rfl ?_ ?_ <;> clear hS
   ·
    intro hg hS
    refine condT hS rfl ?_
    refine wp_seq_k ?_; intro K24 hK24
    refine wp_region_lit ?_
    refine sA hS hR (Yld.build hS rfl (bld67_)) (by decide) ?_; clear hS; intro aa hS
    refine sB (Bstore hS hR rfl rfl (by rfl) info67 (by rfl) pkQ (by rfl) (Nat.le_of_ble_eq_true rfl) ?_); clear hR; intro ww hR
    refine sA hS hR (Yld.assign hS rfl) (by decide) ?_; clear hS; intro aa hS
    refine wpList_nil ?_
    refine hK24 _ _ ?_
    refine wp_ret ?_
    repeat (first | with_reducible refine thenR ?_ | with_reducible refine blockR ?_ | with_reducible refine scopeR ?_)
    refine retN (fn := Tryz.f59) (e := .ret) (.inl rfl) Tryz.results59 hS hR ⟨_, .cons (.agg rfl Tryz.underlying67 rfl info67 (Rds.cons (Rd.blk pkQ (by rfl)) (Rds.cons (Rd.blk pkQ (by rfl)) (Rds.nil))) (by rfl)) (.cons (.tmp rfl) (.nil)), rfl, ?_⟩
    refine ⟨?_, (hR.sub (by repeat (first | with_reducible exact Ex.refl | with_reducible apply Ex.drop)))⟩
    first | (rw [fullF, if_pos ⟨by assumption, by omega, by omega⟩]; first | rfl | (rw [IntWalk.i64_in _ (by have := RR.most ‹RR t p b›; omega)])) | rw [fullF, if_neg (fun h => by obtain ⟨h1, h2, h3⟩ := h; first | contradiction | omega)]
   ·
    intro hg hS
    refine condF hS rfl ?_
    refine wp_skip ?_
    refine hK20 _ _ ?_
    refine wp_seq_k ?_; intro K25 hK25
    refine wp_region_lit ?_
    refine sA hS hR (Yld.loadAgg hS rfl Tryz.underlying31 rfl info31 (Rds.cons (Rd.blk pkQ (by rfl)) (Rds.cons (Rd.blk pkQ (by rfl)) (Rds.cons (Rd.blk pkQ (by rfl)) (Rds.nil)))) (by rfl)) (by decide) ?_; clear hS; intro aa hS
    refine sB (Bcall hS rfl Tryz.call101 (bkmost_ok hR) (by decide) ?_); clear hS; intro aa ww vv hS hp
    clear hR
    obtain ⟨rfl, hR⟩ := hp
    refine sA hS hR (Yld.move hS rfl) (by decide) ?_; clear hS; intro aa hS
    refine sA hS hR (Yld.build hS rfl (bld67_0_1 _ _)) (by decide) ?_; clear hS; intro aa hS
    refine sB (Bstore hS hR rfl rfl (by rfl) info67 (by rfl) pkQ (by rfl) (Nat.le_of_ble_eq_true rfl) ?_); clear hR; intro ww hR
    refine sA hS hR (Yld.assign hS rfl) (by decide) ?_; clear hS; intro aa hS
    refine wpList_nil ?_
    refine hK25 _ _ ?_
    refine wp_ret ?_
    repeat (first | with_reducible refine thenR ?_ | with_reducible refine blockR ?_ | with_reducible refine scopeR ?_)
    refine retN (fn := Tryz.f59) (e := .ret) (.inl rfl) Tryz.results59 hS hR ⟨_, .cons (.agg rfl Tryz.underlying67 rfl info67 (Rds.cons (Rd.blk pkQ (by rfl)) (Rds.cons (Rd.blk pkQ (by rfl)) (Rds.nil))) (by rfl)) (.cons (.tmp rfl) (.nil)), rfl, ?_⟩
    refine ⟨?_, (hR.sub (by repeat (first | with_reducible exact Ex.refl | with_reducible apply Ex.drop)))⟩
    first | (rw [fullF, if_pos ⟨by assumption, by omega, by omega⟩]; first | rfl | (rw [IntWalk.i64_in _ (by have := RR.most ‹RR t p b›; omega)])) | rw [fullF, if_neg (fun h => by obtain ⟨h1, h2, h3⟩ := h; first | contradiction | omega)]
theorem bkFill_ok {t p b lv at_ now : Int} {l : List HP} {w : World} (hR : Sep l w) : CallR Tryz.prog 92 [.agg [.int .i64 t, .int .i64 p, .int .i64 b].toArray, .agg [.int .i64 lv, .int .i64 at_].toArray, .int .i64 now] w (fun v w' => v = .tuple [.agg [.int .i64 (fillF t p b lv at_ now).1, .int .i64 (fillF t p b lv at_ now).2.1].toArray, .int .i64 (fillF t p b lv at_ now).2.2].toArray ∧ Sep l w') := by
 refine enter Tryz.func92 rfl Tryz.ntmps92 (Nat.le_of_ble_eq_true rfl) ?_; intro aa hS
 refine wp_seq_k ?_; intro K26 hK26
 refine wp_region_lit ?_
 refine sB (Bbox hS hR rfl (by rfl) (by decide) ?_); clear hS hR; intro aa ww bb3 hS hR
 refine sB (Bbox hS hR rfl (by rfl) (by decide) ?_); clear hS hR; intro aa ww bb4 hS hR
 refine sB (Balloc hS hR info67 (by rfl) (by rfl) (by decide) ?_); clear hS hR; intro aa ww bb6 hS hR
 refine sA hS hR (Yld.assign hS rfl) (by decide) ?_; clear hS; intro aa hS
 refine wpList_nil ?_
 refine hK26 _ _ ?_
 refine wp_seq_k ?_; intro K27 hK27
 refine wp_seq_k ?_; intro K28 hK28
 refine wp_region_lit ?_
 refine sA hS hR (Yld.loadAgg hS rfl Tryz.underlying31 rfl info31 (Rds.cons (Rd.blk pkQ (by rfl)) (Rds.cons (Rd.blk pkQ (by rfl)) (Rds.cons (Rd.blk pkQ (by rfl)) (Rds.nil)))) (by rfl)) (by decide) ?_; clear hS; intro aa hS
 refine sA hS hR (Yld.loadAgg hS rfl Tryz.underlying67 rfl info67 (Rds.cons (Rd.blk pkQ (by rfl)) (Rds.cons (Rd.blk pkQ (by rfl)) (Rds.nil))) (by rfl)) (by decide) ?_; clear hS; intro aa hS
 refine sB (Bcall hS rfl Tryz.call62 (bkRight_ok hR) (by decide) ?_); clear hS; intro aa ww vv hS hp
 clear hR
 obtain ⟨rfl, hR⟩ := hp
 refine sA hS hR (Yld.not hS rfl) (by decide) ?_; clear hS; intro aa hS
 refine sA hS hR (Yld.move hS rfl) (by decide) ?_; clear hS; intro aa hS
 refine hS.splitB (t := 12) rfl ?_ ?_ <;> clear hS
 ·
  intro hg hS
  refine sSkip hS rfl rfl rfl (by decide) ?_; clear hS; intro aa hS
  refine sSkip hS rfl rfl rfl (by decide) ?_; clear hS; intro aa hS
  refine sSkip hS rfl rfl rfl (by decide) ?_; clear hS; intro aa hS
  refine sSkip hS rfl rfl rfl (by decide) ?_; clear hS; intro aa hS
  refine sA hS hR (Yld.pickT hS rfl rfl) (by decide) ?_; clear hS; intro aa hS
  refine sA hS hR (Yld.move hS rfl) (by decide) ?_; clear hS; intro aa hS
  refine sSkip hS rfl rfl rfl (by decide) ?_; clear hS; intro aa hS
  refine sSkip hS rfl rfl rfl (by decide) ?_; clear hS; intro aa hS
  refine sA hS hR (Yld.pickT hS rfl rfl) (by decide) ?_; clear hS; intro aa hS
  refine wpList_nil ?_
  refine hK28 _ _ ?_
  refine condT hS rfl ?_
  refine wp_seq_k ?_; intro K29 hK29
  refine wp_region_lit ?_
  refine sA hS hR (Yld.build hS rfl (bld67_)) (by decide) ?_; clear hS; intro aa hS
  refine sB (Bstore hS hR rfl rfl (by rfl) info67 (by rfl) pkQ (by rfl) (Nat.le_of_ble_eq_true rfl) ?_); clear hR; intro ww hR
  refine sA hS hR (Yld.assign hS rfl) (by decide) ?_; clear hS; intro aa hS
  refine wpList_nil ?_
  refine hK29 _ _ ?_
  refine wp_ret ?_
  repeat (first | with_reducible refine thenR ?_ | with_reducible refine blockR ?_ | with_reducible refine scopeR ?_)
  refine retN (fn := Tryz.f92) (e := .ret) (.inl rfl) Tryz.results92 hS hR ⟨_, .cons (.agg rfl Tryz.underlying67 rfl info67 (Rds.cons (Rd.blk pkQ (by rfl)) (Rds.cons (Rd.blk pkQ (by rfl)) (Rds.nil))) (by rfl)) (.cons (.tmp rfl) (.nil)), rfl, ?_⟩
  refine ⟨?_, (hR.sub (by repeat (first | with_reducible exact Ex.refl | with_reducible apply Ex.drop)))⟩
  first | rw [fillF, if_pos hT] | rw [fillF, if_neg (fun h => by obtain ⟨h1, h2, h3⟩ := h; first | contradiction | omega)]
 ·
  intro hg hS
  refine sAg hS hR rfl rfl (Yld.move hS rfl) (by decide) ?_; clear hS; intro aa hS
  refine sAg hS hR rfl rfl (Yld.fieldAddr hS rfl 1 Tryz.underlying67 rfl rfl info3 (by decide)) (by decide) ?_; clear hS; intro aa hS
  refine sAg hS hR rfl rfl (Yld.load1 hS rfl Tryz.underlying3 rfl (Rd.blk pkQ (by rfl))) (by decide) ?_; clear hS; intro aa hS
  refine sAg hS hR rfl rfl (Yld.lss hS rfl rfl) (by decide) ?_; clear hS; intro aa hS
  refine sA hS hR (Yld.pickF hS rfl rfl) (by decide) ?_; clear hS; intro aa hS
  refine sA hS hR (Yld.move hS rfl) (by decide) ?_; clear hS; intro aa hS
  refine hS.splitB (t := 18) rfl ?_ ?_ <;> clear hS
  ·
   intro hg hS
   refine sSkip hS rfl rfl rfl (by decide) ?_; clear hS; intro aa hS
   refine sSkip hS rfl rfl rfl (by decide) ?_; clear hS; intro aa hS
   refine sA hS hR (Yld.pickT hS rfl rfl) (by decide) ?_; clear hS; intro aa hS
   refine wpList_nil ?_
   refine hK28 _ _ ?_
   refine condT hS rfl ?_
   refine wp_seq_k ?_; intro K30 hK30
   refine wp_region_lit ?_
   refine sA hS hR (Yld.build hS rfl (bld67_)) (by decide) ?_; clear hS; intro aa hS
   refine sB (Bstore hS hR rfl rfl (by rfl) info67 (by rfl) pkQ (by rfl) (Nat.le_of_ble_eq_true rfl) ?_); clear hR; intro ww hR
   refine sA hS hR (Yld.assign hS rfl) (by decide) ?_; clear hS; intro aa hS
   refine wpList_nil ?_
   refine hK30 _ _ ?_
   refine wp_ret ?_
   repeat (first | with_reducible refine thenR ?_ | with_reducible refine blockR ?_ | with_reducible refine scopeR ?_)
   refine retN (fn := Tryz.f92) (e := .ret) (.inl rfl) Tryz.results92 hS hR ⟨_, .cons (.agg rfl Tryz.underlying67 rfl info67 (Rds.cons (Rd.blk pkQ (by rfl)) (Rds.cons (Rd.blk pkQ (by rfl)) (Rds.nil))) (by rfl)) (.cons (.tmp rfl) (.nil)), rfl, ?_⟩
   refine ⟨?_, (hR.sub (by repeat (first | with_reducible exact Ex.refl | with_reducible apply Ex.drop)))⟩
   first | rw [fillF, if_pos hT] | rw [fillF, if_neg (fun h => by obtain ⟨h1, h2, h3⟩ := h; first | contradiction | omega)]
  ·
   intro hg hS
   refine sAg hS hR rfl rfl (Yld.move hS rfl) (by decide) ?_; clear hS; intro aa hS
   refine sAg hS hR rfl rfl (Yld.gtr hS rfl rfl) (by decide) ?_; clear hS; intro aa hS
   refine sA hS hR (Yld.pickF hS rfl rfl) (by decide) ?_; clear hS; intro aa hS
   refine wpList_nil ?_
   refine hK28 _ _ ?_
   refine hS.splitB (t := 21) rfl ?_ ?_ <;> clear hS
   ·
    intro hg hS
    refine condT hS rfl ?_
    refine wp_seq_k ?_; intro K31 hK31
    refine wp_region_lit ?_
    refine sA hS hR (Yld.build hS rfl (bld67_)) (by decide) ?_; clear hS; intro aa hS
    refine sB (Bstore hS hR rfl rfl (by rfl) info67 (by rfl) pkQ (by rfl) (Nat.le_of_ble_eq_true rfl) ?_); clear hR; intro ww hR
    refine sA hS hR (Yld.assign hS rfl) (by decide) ?_; clear hS; intro aa hS
    refine wpList_nil ?_
    refine hK31 _ _ ?_
    refine wp_ret ?_
    repeat (first | with_reducible refine thenR ?_ | with_reducible refine blockR ?_ | with_reducible refine scopeR ?_)
    refine retN (fn := Tryz.f92) (e := .ret) (.inl rfl) Tryz.results92 hS hR ⟨_, .cons (.agg rfl Tryz.underlying67 rfl info67 (Rds.cons (Rd.blk pkQ (by rfl)) (Rds.cons (Rd.blk pkQ (by rfl)) (Rds.nil))) (by rfl)) (.cons (.tmp rfl) (.nil)), rfl, ?_⟩
    refine ⟨?_, (hR.sub (by repeat (first | with_reducible exact Ex.refl | with_reducible apply Ex.drop)))⟩
    first | rw [fillF, if_pos hT] | rw [fillF, if_neg (fun h => by obtain ⟨h1, h2, h3⟩ := h; first | contradiction | omega)]
   ·
    intro hg hS
    have hT : RT t p b lv at_ now := ⟨by assumption, by omega, by omega⟩
    have hbd := hT.bd
    have hat : 0 ≤ at_ ∧ at_ ≤ now ∧ now ≤ 1099511627776 := ⟨hT.1.2.2.2.1, hT.2⟩
    refine condF hS rfl ?_
    refine wp_skip ?_
    refine hK27 _ _ ?_
    refine wp_seq_k ?_; intro K32 hK32
    refine drawn krQ hR (Ex.of_pk (r := blk bb6 _ _) pkQ) ?_; clear hR; intro ww hR hR0
    refine dA 0 rfl krQ krQ krQ (fun _ _ _ h => h) hS hR0 (Yld.fieldAddr hS rfl 0 Tryz.underlying67 rfl rfl info3 (by decide)) (by decide) ?_; clear hS; intro aa hS
    refine dA 1 rfl krQ krQ krQ (fun _ _ _ h => h) hS hR0 (Yld.load1 hS rfl Tryz.underlying3 rfl (Rd.blk pkQ (by rfl))) (by decide) ?_; clear hS; intro aa hS
    refine dA 2 rfl krQ krQ krQ (fun _ _ _ h => h) hS hR0 (Yld.move hS rfl) (by decide) ?_; clear hS; intro aa hS
    refine dA 3 rfl krQ krQ krQ (fun _ _ _ h => h) hS hR0 (Yld.fieldAddr hS rfl 1 Tryz.underlying67 rfl rfl info3 (by decide)) (by decide) ?_; clear hS; intro aa hS
    refine dA 4 rfl krQ krQ krQ (fun _ _ _ h => h) hS hR0 (Yld.load1 hS rfl Tryz.underlying3 rfl (Rd.blk pkQ (by rfl))) (by decide) ?_; clear hS; intro aa hS
    refine dA 5 rfl krQ krQ krQ (fun _ _ _ h => h) hS hR0 ((by first | exact Yld.sub64 hS rfl rfl (by omega) | exact Yld.sub hS rfl rfl)) (by decide) ?_; clear hS; intro aa hS
    refine dA 6 rfl krQ krQ krQ (fun _ _ _ h => h) hS hR0 (Yld.fieldAddr hS rfl 0 Tryz.underlying31 rfl rfl info3 (by decide)) (by decide) ?_; clear hS; intro aa hS
    refine dA 7 rfl krQ krQ krQ (fun _ _ _ h => h) hS hR0 (Yld.load1 hS rfl Tryz.underlying3 rfl (Rd.blk pkQ (by rfl))) (by decide) ?_; clear hS; intro aa hS
    refine dA 8 rfl krQ krQ krQ (fun _ _ _ h => h) hS hR0 ((by first | exact Yld.mul64 hS rfl rfl (by omega) | exact Yld.mul hS rfl rfl)) (by decide) ?_; clear hS; intro aa hS
    refine dA 9 rfl krQ krQ krQ (fun _ _ _ h => h) hS hR0 ((by first | exact Yld.add64 hS rfl rfl (by omega) | exact Yld.add hS rfl rfl)) (by decide) ?_; clear hS; intro aa hS
    refine dA 10 rfl krQ krQ krQ (fun _ _ _ h => h) hS hR0 (Yld.loadAgg hS rfl Tryz.underlying31 rfl info31 (Rds.cons (Rd.blk pkQ (by rfl)) (Rds.cons (Rd.blk pkQ (by rfl)) (Rds.cons (Rd.blk pkQ (by rfl)) (Rds.nil)))) (by rfl)) (by decide) ?_; clear hS; intro aa hS
    refine dA 13 rfl krQ krQ krQ (fun _ _ _ h => h) hS hR0 (Yld.move hS rfl) (by decide) ?_; clear hS; intro aa hS
    refine dOne (i := 11) krQ ?_
    refine dop rfl (Bcall hS rfl Tryz.call101 (bkmost_ok hR) (by decide) ?_); clear hS; intro aa ww vv hS hp
    clear hR hR0
    obtain ⟨rfl, hR⟩ := hp
    refine dnext (hR.sub (by repeat (first | with_reducible exact Ex.refl | with_reducible apply Ex.drop))) ?_; intro hR0
    replace hS := hS.say (t := 34) (.int .i64 (b * p)) rfl (by rw [IntWalk.i64_in _ (by omega)])
    refine dA 12 rfl krQ krQ krQ (fun _ _ _ h => h) hS hR0 (Yld.min hS rfl rfl) (by decide) ?_; clear hS; intro aa hS
    replace hS := hS.say (t := 35) (.int .i64 (lvl t p b lv at_ now)) rfl rfl
    refine dA 14 rfl krQ krQ krQ (fun _ _ _ h => h) hS hR0 (Yld.build hS rfl (bld67_0_1 _ _)) (by decide) ?_; clear hS; intro aa hS
    refine dOne (i := 15) krQ ?_
    refine dop rfl (Bstore hS hR rfl rfl (by rfl) info67 (by rfl) pkQ (by rfl) (Nat.le_of_ble_eq_true rfl) ?_); clear hR hR0; intro ww hR
    refine dnext (hR.sub (by repeat (first | with_reducible exact Ex.refl | with_reducible apply Ex.drop))) ?_; intro hR0
    refine dA 16 rfl krQ krQ krQ (fun _ _ _ h => h) hS hR0 (Yld.assign hS rfl) (by decide) ?_; clear hS; intro aa hS
    refine wpAnyH_done krQ ?_ _; clear hR0
    refine hK32 _ _ ?_
    refine wp_ret ?_
    repeat (first | with_reducible refine thenR ?_ | with_reducible refine blockR ?_ | with_reducible refine scopeR ?_)
    refine retN (fn := Tryz.f92) (e := .ret) (.inl rfl) Tryz.results92 hS hR ⟨_, .cons (.agg rfl Tryz.underlying67 rfl info67 (Rds.cons (Rd.blk pkQ (by rfl)) (Rds.cons (Rd.blk pkQ (by rfl)) (Rds.nil))) (by rfl)) (.cons (.tmp rfl) (.nil)), rfl, ?_⟩
    refine ⟨?_, (hR.sub (by repeat (first | with_reducible exact Ex.refl | with_reducible apply Ex.drop)))⟩
    first | rw [fillF, if_pos hT] | rw [fillF, if_neg (fun h => by obtain ⟨h1, h2, h3⟩ := h; first | contradiction | omega)]
theorem bkTokens_ok {t p b lv at_ now : Int} {l : List HP} {w : World} (hR : Sep l w) : CallR Tryz.prog 64 [.agg [.int .i64 t, .int .i64 p, .int .i64 b].toArray, .agg [.int .i64 lv, .int .i64 at_].toArray, .int .i64 now] w (fun v w' => v = .tuple [.int .i64 (tokF t p b lv at_ now).1, .int .i64 (tokF t p b lv at_ now).2].toArray ∧ Sep l w') := by
 refine enter Tryz.func64 rfl Tryz.ntmps64 (Nat.le_of_ble_eq_true rfl) ?_; intro aa hS
 refine wp_seq_k ?_; intro K33 hK33
 refine wp_region_lit ?_
 refine sB (Bbox hS hR rfl (by rfl) (by decide) ?_); clear hS hR; intro aa ww bb3 hS hR
 refine sB (Bbox hS hR rfl (by rfl) (by decide) ?_); clear hS hR; intro aa ww bb4 hS hR
 refine sA hS hR (Yld.assign hS rfl) (by decide) ?_; clear hS; intro aa hS
 refine sA hS hR (Yld.assign hS rfl) (by decide) ?_; clear hS; intro aa hS
 refine wpList_nil ?_
 refine hK33 _ _ ?_
 refine wp_seq_k ?_; intro K34 hK34
 refine wp_region_lit ?_
 refine sA hS hR (Yld.loadAgg hS rfl Tryz.underlying31 rfl info31 (Rds.cons (Rd.blk pkQ (by rfl)) (Rds.cons (Rd.blk pkQ (by rfl)) (Rds.cons (Rd.blk pkQ (by rfl)) (Rds.nil)))) (by rfl)) (by decide) ?_; clear hS; intro aa hS
 refine sA hS hR (Yld.loadAgg hS rfl Tryz.underlying67 rfl info67 (Rds.cons (Rd.blk pkQ (by rfl)) (Rds.cons (Rd.blk pkQ (by rfl)) (Rds.nil))) (by rfl)) (by decide) ?_; clear hS; intro aa hS
 refine sA hS hR (Yld.move hS rfl) (by decide) ?_; clear hS; intro aa hS
 refine sB (Bcall hS rfl Tryz.call92 (bkFill_ok hR) (by decide) ?_); clear hS; intro aa ww vv hS hp
 clear hR
 obtain ⟨rfl, hR⟩ := hp
 refine sA hS hR (Yld.move hS rfl) (by decide) ?_; clear hS; intro aa hS
 refine sA hS hR (Yld.extract hS rfl rfl) (by decide) ?_; clear hS; intro aa hS
 refine sA hS hR (Yld.extract hS rfl rfl) (by decide) ?_; clear hS; intro aa hS
 refine sB (Bstore hS hR rfl rfl (by rfl) info67 (by rfl) pkQ (by rfl) (Nat.le_of_ble_eq_true rfl) ?_); clear hR; intro ww hR
 refine sA hS hR (Yld.assign hS rfl) (by decide) ?_; clear hS; intro aa hS
 refine wpList_nil ?_
 refine hK34 _ _ ?_
 refine wp_seq_k ?_; intro K35 hK35
 refine wp_seq_k ?_; intro K36 hK36
 refine wp_region_lit ?_
 refine sA hS hR (Yld.move hS rfl) (by decide) ?_; clear hS; intro aa hS
 refine sA hS hR (Yld.neq hS rfl rfl) (by decide) ?_; clear hS; intro aa hS
 refine wpList_nil ?_
 refine hK36 _ _ ?_
 refine hS.splitB (t := 17) rfl ?_ ?_ <;> clear hS
 ·
  intro hg hS
  refine condT hS rfl ?_
  refine wp_seq_k ?_; intro K37 hK37
  refine wp_region_lit ?_
  refine sA hS hR (Yld.move hS rfl) (by decide) ?_; clear hS; intro aa hS
  refine sA hS hR (Yld.assign hS rfl) (by decide) ?_; clear hS; intro aa hS
  refine sA hS hR (Yld.assign hS rfl) (by decide) ?_; clear hS; intro aa hS
  refine wpList_nil ?_
  refine hK37 _ _ ?_
  refine wp_ret ?_
  repeat (first | with_reducible refine thenR ?_ | with_reducible refine blockR ?_ | with_reducible refine scopeR ?_)
  refine retN (fn := Tryz.f64) (e := .ret) (.inl rfl) Tryz.results64 hS hR ⟨_, .cons (.tmp rfl) (.cons (.tmp rfl) (.nil)), rfl, ?_⟩
  refine ⟨?_, (hR.sub (by repeat (first | with_reducible exact Ex.refl | with_reducible apply Ex.drop)))⟩
  first | rw [tokF_pos hT] | rw [fillF_neg (fillF_no hg), tokF_neg (fillF_no hg)]
 ·
  intro hg hS
  have hT := fillF_ok ‹_›
  rw [fillF_pos hT] at hR; try dsimp only at hR
  have hlb := lvl_bd hT
  have hpp : 1 ≤ p := hT.1.1.2.2.1
  refine condF hS rfl ?_
  refine wp_skip ?_
  refine hK35 _ _ ?_
  refine wp_seq_k ?_; intro K38 hK38
  refine wp_region_lit ?_
  refine sA hS hR (Yld.fieldAddr hS rfl 0 Tryz.underlying67 rfl rfl info3 (by decide)) (by decide) ?_; clear hS; intro aa hS
  refine sA hS hR (Yld.load1 hS rfl Tryz.underlying3 rfl (Rd.blk pkQ (by rfl))) (by decide) ?_; clear hS; intro aa hS
  refine sA hS hR (Yld.fieldAddr hS rfl 1 Tryz.underlying31 rfl rfl info3 (by decide)) (by decide) ?_; clear hS; intro aa hS
  refine sA hS hR (Yld.load1 hS rfl Tryz.underlying3 rfl (Rd.blk pkQ (by rfl))) (by decide) ?_; clear hS; intro aa hS
  refine sA hS hR ((by first | exact Yld.quo64 hS rfl rfl (by omega) | exact Yld.quo hS rfl rfl (by omega))) (by decide) ?_; clear hS; intro aa hS
  refine sA hS hR (Yld.assign hS rfl) (by decide) ?_; clear hS; intro aa hS
  refine sA hS hR (Yld.assign hS rfl) (by decide) ?_; clear hS; intro aa hS
  refine wpList_nil ?_
  refine hK38 _ _ ?_
  refine wp_ret ?_
  repeat (first | with_reducible refine thenR ?_ | with_reducible refine blockR ?_ | with_reducible refine scopeR ?_)
  refine retN (fn := Tryz.f64) (e := .ret) (.inl rfl) Tryz.results64 hS hR ⟨_, .cons (.tmp rfl) (.cons (.tmp rfl) (.nil)), rfl, ?_⟩
  refine ⟨?_, (hR.sub (by repeat (first | with_reducible exact Ex.refl | with_reducible apply Ex.drop)))⟩
  first | rw [tokF_pos hT] | rw [fillF_neg (fillF_no hg), tokF_neg (fillF_no hg)]
theorem bkTake_ok {t p b lv at_ now n : Int} {l : List HP} {w : World} (hR : Sep l w) : CallR Tryz.prog 48 [.agg [.int .i64 t, .int .i64 p, .int .i64 b].toArray, .agg [.int .i64 lv, .int .i64 at_].toArray, .int .i64 now, .int .i64 n] w (fun v w' => v = .tuple [.agg [.int .i64 (takeF t p b lv at_ now n).1, .int .i64 (takeF t p b lv at_ now n).2.1].toArray, .int .i64 (takeF t p b lv at_ now n).2.2].toArray ∧ Sep l w') := by
 refine enter Tryz.func48 rfl Tryz.ntmps48 (Nat.le_of_ble_eq_true rfl) ?_; intro aa hS
 refine wp_seq_k ?_; intro K39 hK39
 refine wp_region_lit ?_
 refine sB (Bbox hS hR rfl (by rfl) (by decide) ?_); clear hS hR; intro aa ww bb4 hS hR
 refine sB (Bbox hS hR rfl (by rfl) (by decide) ?_); clear hS hR; intro aa ww bb5 hS hR
 refine sB (Balloc hS hR info67 (by rfl) (by rfl) (by decide) ?_); clear hS hR; intro aa ww bb8 hS hR
 refine sA hS hR (Yld.assign hS rfl) (by decide) ?_; clear hS; intro aa hS
 refine wpList_nil ?_
 refine hK39 _ _ ?_
 refine wp_seq_k ?_; intro K40 hK40
 refine wp_region_lit ?_
 refine sA hS hR (Yld.loadAgg hS rfl Tryz.underlying31 rfl info31 (Rds.cons (Rd.blk pkQ (by rfl)) (Rds.cons (Rd.blk pkQ (by rfl)) (Rds.cons (Rd.blk pkQ (by rfl)) (Rds.nil)))) (by rfl)) (by decide) ?_; clear hS; intro aa hS
 refine sA hS hR (Yld.loadAgg hS rfl Tryz.underlying67 rfl info67 (Rds.cons (Rd.blk pkQ (by rfl)) (Rds.cons (Rd.blk pkQ (by rfl)) (Rds.nil))) (by rfl)) (by decide) ?_; clear hS; intro aa hS
 refine sA hS hR (Yld.move hS rfl) (by decide) ?_; clear hS; intro aa hS
 refine sB (Bcall hS rfl Tryz.call92 (bkFill_ok hR) (by decide) ?_); clear hS; intro aa ww vv hS hp
 clear hR
 obtain ⟨rfl, hR⟩ := hp
 refine sA hS hR (Yld.move hS rfl) (by decide) ?_; clear hS; intro aa hS
 refine sA hS hR (Yld.extract hS rfl rfl) (by decide) ?_; clear hS; intro aa hS
 refine sA hS hR (Yld.extract hS rfl rfl) (by decide) ?_; clear hS; intro aa hS
 refine sB (Bstore hS hR rfl rfl (by rfl) info67 (by rfl) pkQ (by rfl) (Nat.le_of_ble_eq_true rfl) ?_); clear hR; intro ww hR
 refine sA hS hR (Yld.assign hS rfl) (by decide) ?_; clear hS; intro aa hS
 refine wpList_nil ?_
 refine hK40 _ _ ?_
 refine wp_seq_k ?_; intro K41 hK41
 refine wp_block ?_
 refine wp_seq_k ?_; intro K42 hK42
 refine wp_region_lit ?_
 refine sA hS hR (Yld.move hS rfl) (by decide) ?_; clear hS; intro aa hS
 refine sA hS hR (Yld.neq hS rfl rfl) (by decide) ?_; clear hS; intro aa hS
 refine sA hS hR (Yld.move hS rfl) (by decide) ?_; clear hS; intro aa hS
 refine hS.splitB (t := 21) rfl ?_ ?_ <;> clear hS
 ·
  intro hg hS
  have hno := fillF_no hg
  refine sSkip hS rfl rfl rfl (by decide) ?_; clear hS; intro aa hS
  refine sSkip hS rfl rfl rfl (by decide) ?_; clear hS; intro aa hS
  refine sA hS hR (Yld.pickT hS rfl rfl) (by decide) ?_; clear hS; intro aa hS
  refine sA hS hR (Yld.move hS rfl) (by decide) ?_; clear hS; intro aa hS
  refine sSkip hS rfl rfl rfl (by decide) ?_; clear hS; intro aa hS
  refine sSkip hS rfl rfl rfl (by decide) ?_; clear hS; intro aa hS
  refine sSkip hS rfl rfl rfl (by decide) ?_; clear hS; intro aa hS
  refine sSkip hS rfl rfl rfl (by decide) ?_; clear hS; intro aa hS
  refine sA hS hR (Yld.pickT hS rfl rfl) (by decide) ?_; clear hS; intro aa hS
  refine sA hS hR (Yld.assign hS rfl) (by decide) ?_; clear hS; intro aa hS
  refine wpList_nil ?_
  refine hK42 _ _ ?_
  refine condT hS rfl ?_
  refine wp_seq_k ?_; intro K43 hK43
  refine wp_region_lit ?_
  refine sA hS hR (Yld.build hS rfl (bld67_)) (by decide) ?_; clear hS; intro aa hS
  refine sB (Bstore hS hR rfl rfl (by rfl) info67 (by rfl) pkQ (by rfl) (Nat.le_of_ble_eq_true rfl) ?_); clear hR; intro ww hR
  refine sA hS hR (Yld.assign hS rfl) (by decide) ?_; clear hS; intro aa hS
  refine wpList_nil ?_
  refine hK43 _ _ ?_
  refine wp_ret ?_
  repeat (first | with_reducible refine thenR ?_ | with_reducible refine blockR ?_ | with_reducible refine scopeR ?_)
  refine retN (fn := Tryz.f48) (e := .ret) (.inl rfl) Tryz.results48 hS hR ⟨_, .cons (.agg rfl Tryz.underlying67 rfl info67 (Rds.cons (Rd.blk pkQ (by rfl)) (Rds.cons (Rd.blk pkQ (by rfl)) (Rds.nil))) (by rfl)) (.cons (.tmp rfl) (.nil)), rfl, ?_⟩
  refine ⟨?_, (hR.sub (by repeat (first | with_reducible exact Ex.refl | with_reducible apply Ex.drop)))⟩
  first | rw [takeF_no (.inl hno)] | rw [takeF_no (.inr (by omega))] | rw [takeF_none hT (by omega) (by omega) (by omega)] | rw [takeF_ok hT (by omega) (by omega) (by omega)]
 ·
  intro hg hS
  refine sAg hS hR rfl rfl (Yld.move hS rfl) (by decide) ?_; clear hS; intro aa hS
  refine sAg hS hR rfl rfl (Yld.lss hS rfl rfl) (by decide) ?_; clear hS; intro aa hS
  refine sA hS hR (Yld.pickF hS rfl rfl) (by decide) ?_; clear hS; intro aa hS
  refine sA hS hR (Yld.move hS rfl) (by decide) ?_; clear hS; intro aa hS
  refine hS.splitB (t := 25) rfl ?_ ?_ <;> clear hS
  ·
   intro hg hS
   refine sSkip hS rfl rfl rfl (by decide) ?_; clear hS; intro aa hS
   refine sSkip hS rfl rfl rfl (by decide) ?_; clear hS; intro aa hS
   refine sSkip hS rfl rfl rfl (by decide) ?_; clear hS; intro aa hS
   refine sSkip hS rfl rfl rfl (by decide) ?_; clear hS; intro aa hS
   refine sA hS hR (Yld.pickT hS rfl rfl) (by decide) ?_; clear hS; intro aa hS
   refine sA hS hR (Yld.assign hS rfl) (by decide) ?_; clear hS; intro aa hS
   refine wpList_nil ?_
   refine hK42 _ _ ?_
   refine condT hS rfl ?_
   refine wp_seq_k ?_; intro K44 hK44
   refine wp_region_lit ?_
   refine sA hS hR (Yld.build hS rfl (bld67_)) (by decide) ?_; clear hS; intro aa hS
   refine sB (Bstore hS hR rfl rfl (by rfl) info67 (by rfl) pkQ (by rfl) (Nat.le_of_ble_eq_true rfl) ?_); clear hR; intro ww hR
   refine sA hS hR (Yld.assign hS rfl) (by decide) ?_; clear hS; intro aa hS
   refine wpList_nil ?_
   refine hK44 _ _ ?_
   refine wp_ret ?_
   repeat (first | with_reducible refine thenR ?_ | with_reducible refine blockR ?_ | with_reducible refine scopeR ?_)
   refine retN (fn := Tryz.f48) (e := .ret) (.inl rfl) Tryz.results48 hS hR ⟨_, .cons (.agg rfl Tryz.underlying67 rfl info67 (Rds.cons (Rd.blk pkQ (by rfl)) (Rds.cons (Rd.blk pkQ (by rfl)) (Rds.nil))) (by rfl)) (.cons (.tmp rfl) (.nil)), rfl, ?_⟩
   refine ⟨?_, (hR.sub (by repeat (first | with_reducible exact Ex.refl | with_reducible apply Ex.drop)))⟩
   first | rw [takeF_no (.inl hno)] | rw [takeF_no (.inr (by omega))] | rw [takeF_none hT (by omega) (by omega) (by omega)] | rw [takeF_ok hT (by omega) (by omega) (by omega)]
  ·
   intro hg hS
   refine sAg hS hR rfl rfl (Yld.move hS rfl) (by decide) ?_; clear hS; intro aa hS
   refine sAg hS hR rfl rfl (Yld.fieldAddr hS rfl 2 Tryz.underlying31 rfl rfl info3 (by decide)) (by decide) ?_; clear hS; intro aa hS
   refine sAg hS hR rfl rfl (Yld.load1 hS rfl Tryz.underlying3 rfl (Rd.blk pkQ (by rfl))) (by decide) ?_; clear hS; intro aa hS
   refine sAg hS hR rfl rfl (Yld.gtr hS rfl rfl) (by decide) ?_; clear hS; intro aa hS
   refine sA hS hR (Yld.pickF hS rfl rfl) (by decide) ?_; clear hS; intro aa hS
   refine sA hS hR (Yld.assign hS rfl) (by decide) ?_; clear hS; intro aa hS
   refine wpList_nil ?_
   refine hK42 _ _ ?_
   refine hS.splitB (t := 18) rfl ?_ ?_ <;> clear hS
   ·
    intro hg hS
    refine condT hS rfl ?_
    refine wp_seq_k ?_; intro K45 hK45
    refine wp_region_lit ?_
    refine sA hS hR (Yld.build hS rfl (bld67_)) (by decide) ?_; clear hS; intro aa hS
    refine sB (Bstore hS hR rfl rfl (by rfl) info67 (by rfl) pkQ (by rfl) (Nat.le_of_ble_eq_true rfl) ?_); clear hR; intro ww hR
    refine sA hS hR (Yld.assign hS rfl) (by decide) ?_; clear hS; intro aa hS
    refine wpList_nil ?_
    refine hK45 _ _ ?_
    refine wp_ret ?_
    repeat (first | with_reducible refine thenR ?_ | with_reducible refine blockR ?_ | with_reducible refine scopeR ?_)
    refine retN (fn := Tryz.f48) (e := .ret) (.inl rfl) Tryz.results48 hS hR ⟨_, .cons (.agg rfl Tryz.underlying67 rfl info67 (Rds.cons (Rd.blk pkQ (by rfl)) (Rds.cons (Rd.blk pkQ (by rfl)) (Rds.nil))) (by rfl)) (.cons (.tmp rfl) (.nil)), rfl, ?_⟩
    refine ⟨?_, (hR.sub (by repeat (first | with_reducible exact Ex.refl | with_reducible apply Ex.drop)))⟩
    first | rw [takeF_no (.inl hno)] | rw [takeF_no (.inr (by omega))] | rw [takeF_none hT (by omega) (by omega) (by omega)] | rw [takeF_ok hT (by omega) (by omega) (by omega)]
   ·
    intro hg hS
    have hT := fillF_ok ‹_›
    rw [fillF_pos hT] at hR; try dsimp only at hR
    have hlb := lvl_bd hT
    have hnp := hT.np (n := n) (by omega) (by omega)
    refine condF hS rfl ?_
    refine wp_seq_k ?_; intro K46 hK46
    refine wp_region_lit ?_
    refine sA hS hR (Yld.fieldAddr hS rfl 0 Tryz.underlying67 rfl rfl info3 (by decide)) (by decide) ?_; clear hS; intro aa hS
    refine sA hS hR (Yld.load1 hS rfl Tryz.underlying3 rfl (Rd.blk pkQ (by rfl))) (by decide) ?_; clear hS; intro aa hS
    refine sA hS hR (Yld.move hS rfl) (by decide) ?_; clear hS; intro aa hS
    refine sA hS hR (Yld.fieldAddr hS rfl 1 Tryz.underlying31 rfl rfl info3 (by decide)) (by decide) ?_; clear hS; intro aa hS
    refine sA hS hR (Yld.load1 hS rfl Tryz.underlying3 rfl (Rd.blk pkQ (by rfl))) (by decide) ?_; clear hS; intro aa hS
    refine sA hS hR ((by first | exact Yld.mul64 hS rfl rfl (by omega) | exact Yld.mul hS rfl rfl)) (by decide) ?_; clear hS; intro aa hS
    refine sA hS hR (Yld.lss hS rfl rfl) (by decide) ?_; clear hS; intro aa hS
    refine sA hS hR (Yld.assign hS rfl) (by decide) ?_; clear hS; intro aa hS
    refine wpList_nil ?_
    refine hK46 _ _ ?_
    refine hS.splitB (t := 32) rfl ?_ ?_ <;> clear hS
    ·
     intro hg hS
     refine condT hS rfl ?_
     refine wp_seq_k ?_; intro K47 hK47
     refine wp_region_lit ?_
     refine sA hS hR (Yld.build hS rfl (bld67_)) (by decide) ?_; clear hS; intro aa hS
     refine sB (Bstore hS hR rfl rfl (by rfl) info67 (by rfl) pkQ (by rfl) (Nat.le_of_ble_eq_true rfl) ?_); clear hR; intro ww hR
     refine sA hS hR (Yld.assign hS rfl) (by decide) ?_; clear hS; intro aa hS
     refine wpList_nil ?_
     refine hK47 _ _ ?_
     refine wp_ret ?_
     repeat (first | with_reducible refine thenR ?_ | with_reducible refine blockR ?_ | with_reducible refine scopeR ?_)
     refine retN (fn := Tryz.f48) (e := .ret) (.inl rfl) Tryz.results48 hS hR ⟨_, .cons (.agg rfl Tryz.underlying67 rfl info67 (Rds.cons (Rd.blk pkQ (by rfl)) (Rds.cons (Rd.blk pkQ (by rfl)) (Rds.nil))) (by rfl)) (.cons (.tmp rfl) (.nil)), rfl, ?_⟩
     refine ⟨?_, (hR.sub (by repeat (first | with_reducible exact Ex.refl | with_reducible apply Ex.drop)))⟩
     first | rw [takeF_no (.inl hno)] | rw [takeF_no (.inr (by omega))] | rw [takeF_none hT (by omega) (by omega) (by omega)] | rw [takeF_ok hT (by omega) (by omega) (by omega)]
    ·
     intro hg hS
     refine condF hS rfl ?_
     refine wp_skip ?_
     refine hK41 _ _ ?_
     refine wp_seq_k ?_; intro K48 hK48
     refine wp_region_lit ?_
     refine sA hS hR (Yld.fieldAddr hS rfl 0 Tryz.underlying67 rfl rfl info3 (by decide)) (by decide) ?_; clear hS; intro aa hS
     refine sA hS hR (Yld.load1 hS rfl Tryz.underlying3 rfl (Rd.blk pkQ (by rfl))) (by decide) ?_; clear hS; intro aa hS
     refine sA hS hR (Yld.move hS rfl) (by decide) ?_; clear hS; intro aa hS
     refine sA hS hR (Yld.fieldAddr hS rfl 1 Tryz.underlying31 rfl rfl info3 (by decide)) (by decide) ?_; clear hS; intro aa hS
     refine sA hS hR (Yld.load1 hS rfl Tryz.underlying3 rfl (Rd.blk pkQ (by rfl))) (by decide) ?_; clear hS; intro aa hS
     refine sA hS hR ((by first | exact Yld.mul64 hS rfl rfl (by omega) | exact Yld.mul hS rfl rfl)) (by decide) ?_; clear hS; intro aa hS
     refine sA hS hR ((by first | exact Yld.sub64 hS rfl rfl (by omega) | exact Yld.sub hS rfl rfl)) (by decide) ?_; clear hS; intro aa hS
     refine sA hS hR (Yld.fieldAddr hS rfl 0 Tryz.underlying67 rfl rfl info3 (by decide)) (by decide) ?_; clear hS; intro aa hS
     refine sB (Bstore hS hR rfl rfl (by rfl) info3 (by rfl) pkQ (by rfl) (Nat.le_of_ble_eq_true rfl) ?_); clear hR; intro ww hR
     refine wpList_nil ?_
     refine hK48 _ _ ?_
     refine wp_seq_k ?_; intro K49 hK49
     refine wp_region_lit ?_
     refine sA hS hR (Yld.loadAgg hS rfl Tryz.underlying67 rfl info67 (Rds.cons (Rd.blk pkQ (by rfl)) (Rds.cons (Rd.blk pkQ (by rfl)) (Rds.nil))) (by rfl)) (by decide) ?_; clear hS; intro aa hS
     refine sB (Bstore hS hR rfl rfl (by rfl) info67 (by rfl) pkQ (by rfl) (Nat.le_of_ble_eq_true rfl) ?_); clear hR; intro ww hR
     refine sA hS hR (Yld.assign hS rfl) (by decide) ?_; clear hS; intro aa hS
     refine wpList_nil ?_
     refine hK49 _ _ ?_
     refine wp_ret ?_
     repeat (first | with_reducible refine thenR ?_ | with_reducible refine blockR ?_ | with_reducible refine scopeR ?_)
     refine retN (fn := Tryz.f48) (e := .ret) (.inl rfl) Tryz.results48 hS hR ⟨_, .cons (.agg rfl Tryz.underlying67 rfl info67 (Rds.cons (Rd.blk pkQ (by rfl)) (Rds.cons (Rd.blk pkQ (by rfl)) (Rds.nil))) (by rfl)) (.cons (.tmp rfl) (.nil)), rfl, ?_⟩
     refine ⟨?_, (hR.sub (by repeat (first | with_reducible exact Ex.refl | with_reducible apply Ex.drop)))⟩
     first | rw [takeF_no (.inl hno)] | rw [takeF_no (.inr (by omega))] | rw [takeF_none hT (by omega) (by omega) (by omega)] | rw [takeF_ok hT (by omega) (by omega) (by omega)]
end Go.Proofs.YtkhdejjompbklaaGreat.Sx
