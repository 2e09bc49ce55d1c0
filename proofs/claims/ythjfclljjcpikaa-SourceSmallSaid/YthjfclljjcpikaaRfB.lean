/-
 
-/
import Derived.Test.YthjfclljjcpikaaRfA
namespace Go.Proofs.Ythjfclljjcpikaa.Sx
open Go
set_option linter.unusedVariables false
set_option linter.unusedSimpArgs false

theorem info80 : Try.prog.info? 80 = some Try.t80 := by kernel_rfl
theorem bld128_0_1 (x0 : Int) (x1 : Int) (w : World) : (Instr.build 128 [(0, .int .u32 x0), (1, .int .i64 x1)].toArray).run Try.prog w = .ok (.agg [.int .u32 x0, .int .i64 x1].toArray) w := by kernel_rfl
theorem bld130_0_1 (x0 : Int) (x1 : Int) (w : World) : (Instr.build 130 [(0, .int .u32 x0), (1, .int .i64 x1)].toArray).run Try.prog w = .ok (.agg [.int .u32 x0, .int .i64 x1].toArray) w := by kernel_rfl
theorem bld80_  (w : World) : (Instr.build 80 [].toArray).run Try.prog w = .ok (.agg [.int .i64 0, .int .i64 0, .slice none 0 0, .slice none 0 0, .slice none 0 0].toArray) w := by kernel_rfl
theorem bld80_0_1 (x0 : Int) (x1 : Int) (w : World) : (Instr.build 80 [(0, .int .i64 x0), (1, .int .i64 x1)].toArray).run Try.prog w = .ok (.agg [.int .i64 x0, .int .i64 x1, .slice none 0 0, .slice none 0 0, .slice none 0 0].toArray) w := by kernel_rfl
theorem bls40_0_  (w : World) : (Instr.buildSlice 40 0 [].toArray).run Try.prog w = .ok (.slice (some ⟨w.heap.size, 0, none⟩) 0 0) (w.alloc (.cells ([] : List Value).toArray 3)) := by kernel_rfl
theorem bls77_0_  (w : World) : (Instr.buildSlice 77 0 [].toArray).run Try.prog w = .ok (.slice (some ⟨w.heap.size, 0, none⟩) 0 0) (w.alloc (.cells ([] : List Value).toArray 130)) := by kernel_rfl
theorem bls77_1_0 (x0_0 : Int) (x0_1 : Int) (w : World) : (Instr.buildSlice 77 1 [(0, .agg [.int .u32 x0_0, .int .i64 x0_1].toArray)].toArray).run Try.prog w = .ok (.slice (some ⟨w.heap.size, 0, none⟩) 1 1) (w.alloc (.cells ([.int .u32 x0_0, .int .i64 x0_1] : List Value).toArray 130)) := by kernel_rfl
theorem bls78_0_  (w : World) : (Instr.buildSlice 78 0 [].toArray).run Try.prog w = .ok (.slice (some ⟨w.heap.size, 0, none⟩) 0 0) (w.alloc (.cells ([] : List Value).toArray 128)) := by kernel_rfl
theorem bls78_1_0 (x0_0 : Int) (x0_1 : Int) (w : World) : (Instr.buildSlice 78 1 [(0, .agg [.int .u32 x0_0, .int .i64 x0_1].toArray)].toArray).run Try.prog w = .ok (.slice (some ⟨w.heap.size, 0, none⟩) 1 1) (w.alloc (.cells ([.int .u32 x0_0, .int .i64 x0_1] : List Value).toArray 128)) := by kernel_rfl

set_option maxRecDepth 20000 in
theorem rfNew_bad {m i : Int} {l : List HP} {w : World} (hR : Sep l w) (hn : ¬ (1 ≤ m ∧ m ≤ 4096 ∧ 1 ≤ i ∧ i ≤ 64)) : CallR Try.prog 35 [.int .i64 m, .int .i64 i] w (fun v w' => v = .tuple [.agg [.int .i64 0, .int .i64 0, .slice none 0 0, .slice none 0 0, .slice none 0 0].toArray, .int .i64 2].toArray ∧ Sep l w') := by
 refine enter Try.func35 rfl Try.ntmps35 (Nat.le_of_ble_eq_true rfl) ?_; intro aa hS
 refine wp_seq_k ?_; intro K814 hK814
 refine wp_region_lit ?_
 refine sB (Balloc hS hR info80 (by rfl) (by rfl) (by decide) ?_); clear hS hR; intro aa ww bb4 hS hR
 revert aa
 refine qN hR ?_
 intro aa hS
 refine wpList_nil ?_
 refine hK814 _ _ ?_
 refine wp_seq_k ?_; intro K815 hK815
 refine wp_seq_k ?_; intro K816 hK816
 refine wp_region_lit ?_
 revert aa
 refine qM hR ?_
 refine qA hR rfl (fun _ hS => Yld.lss hS rfl rfl) ?_
 refine qM hR ?_
 intro aa hS
 refine hS.splitB (t := 10) rfl ?_ ?_ <;> clear hS
 ·
  intro hg hS
  revert aa
  refine qZ ?_
  refine qZ ?_
  refine qA hR rfl (fun _ hS => Yld.pickT hS rfl rfl) ?_
  refine qM hR ?_
  refine qZ ?_
  refine qZ ?_
  refine qA hR rfl (fun _ hS => Yld.pickT hS rfl rfl) ?_
  refine qM hR ?_
  refine qZ ?_
  refine qZ ?_
  refine qA hR rfl (fun _ hS => Yld.pickT hS rfl rfl) ?_
  intro aa hS
  refine wpList_nil ?_
  refine hK816 _ _ ?_
  refine condT hS rfl ?_
  refine wp_seq_k ?_; intro K817 hK817
  refine wp_region_lit ?_
  refine sA hS hR (Yld.build hS rfl (bld80_)) (by decide) ?_; clear hS; intro aa hS
  refine sB (Bstore hS hR rfl rfl (by rfl) info80 (by rfl) pkQ (by rfl) (Nat.le_of_ble_eq_true rfl) ?_); clear hR; intro ww hR
  revert aa
  refine qN hR ?_
  intro aa hS
  refine wpList_nil ?_
  refine hK817 _ _ ?_
  refine wp_ret ?_
  repeat first | with_reducible refine thenR ?_ | with_reducible refine blockR ?_ | with_reducible refine scopeR ?_
  refine retN (fn := Try.f35) (e := .ret) (.inl rfl) Try.results35 hS hR ⟨_, .cons (.agg rfl Try.underlying80 rfl info80 (Rds.cons (Rd.blk pkQ (by rfl)) (Rds.cons (Rd.blk pkQ (by rfl)) (Rds.cons (Rd.blk pkQ (by rfl)) (Rds.cons (Rd.blk pkQ (by rfl)) (Rds.cons (Rd.blk pkQ (by rfl)) (Rds.nil)))))) (by rfl)) (.cons (.tmp rfl) (.nil)), rfl, ?_⟩
  try dsimp only [lay, List.set] at hR
  exact ⟨rfl, (hR.sub exQ)⟩
 ·
  intro hg hS
  revert aa
  refine qMg hR ?_
  refine qAg hR rfl rfl rfl (fun _ hS => Yld.gtr hS rfl rfl) ?_
  refine qA hR rfl (fun _ hS => Yld.pickF hS rfl rfl) ?_
  refine qM hR ?_
  intro aa hS
  refine hS.splitB (t := 14) rfl ?_ ?_ <;> clear hS
  ·
   intro hg hS
   revert aa
   refine qZ ?_
   refine qZ ?_
   refine qA hR rfl (fun _ hS => Yld.pickT hS rfl rfl) ?_
   refine qM hR ?_
   refine qZ ?_
   refine qZ ?_
   refine qA hR rfl (fun _ hS => Yld.pickT hS rfl rfl) ?_
   intro aa hS
   refine wpList_nil ?_
   refine hK816 _ _ ?_
   refine condT hS rfl ?_
   refine wp_seq_k ?_; intro K818 hK818
   refine wp_region_lit ?_
   refine sA hS hR (Yld.build hS rfl (bld80_)) (by decide) ?_; clear hS; intro aa hS
   refine sB (Bstore hS hR rfl rfl (by rfl) info80 (by rfl) pkQ (by rfl) (Nat.le_of_ble_eq_true rfl) ?_); clear hR; intro ww hR
   revert aa
   refine qN hR ?_
   intro aa hS
   refine wpList_nil ?_
   refine hK818 _ _ ?_
   refine wp_ret ?_
   repeat first | with_reducible refine thenR ?_ | with_reducible refine blockR ?_ | with_reducible refine scopeR ?_
   refine retN (fn := Try.f35) (e := .ret) (.inl rfl) Try.results35 hS hR ⟨_, .cons (.agg rfl Try.underlying80 rfl info80 (Rds.cons (Rd.blk pkQ (by rfl)) (Rds.cons (Rd.blk pkQ (by rfl)) (Rds.cons (Rd.blk pkQ (by rfl)) (Rds.cons (Rd.blk pkQ (by rfl)) (Rds.cons (Rd.blk pkQ (by rfl)) (Rds.nil)))))) (by rfl)) (.cons (.tmp rfl) (.nil)), rfl, ?_⟩
   try dsimp only [lay, List.set] at hR
   exact ⟨rfl, (hR.sub exQ)⟩
  ·
   intro hg hS
   revert aa
   refine qMg hR ?_
   refine qAg hR rfl rfl rfl (fun _ hS => Yld.lss hS rfl rfl) ?_
   refine qA hR rfl (fun _ hS => Yld.pickF hS rfl rfl) ?_
   refine qM hR ?_
   intro aa hS
   refine hS.splitB (t := 18) rfl ?_ ?_ <;> clear hS
   ·
    intro hg hS
    revert aa
    refine qZ ?_
    refine qZ ?_
    refine qA hR rfl (fun _ hS => Yld.pickT hS rfl rfl) ?_
    intro aa hS
    refine wpList_nil ?_
    refine hK816 _ _ ?_
    refine condT hS rfl ?_
    refine wp_seq_k ?_; intro K819 hK819
    refine wp_region_lit ?_
    refine sA hS hR (Yld.build hS rfl (bld80_)) (by decide) ?_; clear hS; intro aa hS
    refine sB (Bstore hS hR rfl rfl (by rfl) info80 (by rfl) pkQ (by rfl) (Nat.le_of_ble_eq_true rfl) ?_); clear hR; intro ww hR
    revert aa
    refine qN hR ?_
    intro aa hS
    refine wpList_nil ?_
    refine hK819 _ _ ?_
    refine wp_ret ?_
    repeat first | with_reducible refine thenR ?_ | with_reducible refine blockR ?_ | with_reducible refine scopeR ?_
    refine retN (fn := Try.f35) (e := .ret) (.inl rfl) Try.results35 hS hR ⟨_, .cons (.agg rfl Try.underlying80 rfl info80 (Rds.cons (Rd.blk pkQ (by rfl)) (Rds.cons (Rd.blk pkQ (by rfl)) (Rds.cons (Rd.blk pkQ (by rfl)) (Rds.cons (Rd.blk pkQ (by rfl)) (Rds.cons (Rd.blk pkQ (by rfl)) (Rds.nil)))))) (by rfl)) (.cons (.tmp rfl) (.nil)), rfl, ?_⟩
    try dsimp only [lay, List.set] at hR
    exact ⟨rfl, (hR.sub exQ)⟩
   ·
    intro hg hS
    revert aa
    refine qMg hR ?_
    refine qAg hR rfl rfl rfl (fun _ hS => Yld.gtr hS rfl rfl) ?_
    refine qA hR rfl (fun _ hS => Yld.pickF hS rfl rfl) ?_
    intro aa hS
    refine wpList_nil ?_
    refine hK816 _ _ ?_
    refine hS.splitB (t := 21) rfl ?_ ?_ <;> clear hS
    ·
     intro hg hS
     refine condT hS rfl ?_
     refine wp_seq_k ?_; intro K820 hK820
     refine wp_region_lit ?_
     refine sA hS hR (Yld.build hS rfl (bld80_)) (by decide) ?_; clear hS; intro aa hS
     refine sB (Bstore hS hR rfl rfl (by rfl) info80 (by rfl) pkQ (by rfl) (Nat.le_of_ble_eq_true rfl) ?_); clear hR; intro ww hR
     revert aa
     refine qN hR ?_
     intro aa hS
     refine wpList_nil ?_
     refine hK820 _ _ ?_
     refine wp_ret ?_
     repeat first | with_reducible refine thenR ?_ | with_reducible refine blockR ?_ | with_reducible refine scopeR ?_
     refine retN (fn := Try.f35) (e := .ret) (.inl rfl) Try.results35 hS hR ⟨_, .cons (.agg rfl Try.underlying80 rfl info80 (Rds.cons (Rd.blk pkQ (by rfl)) (Rds.cons (Rd.blk pkQ (by rfl)) (Rds.cons (Rd.blk pkQ (by rfl)) (Rds.cons (Rd.blk pkQ (by rfl)) (Rds.cons (Rd.blk pkQ (by rfl)) (Rds.nil)))))) (by rfl)) (.cons (.tmp rfl) (.nil)), rfl, ?_⟩
     try dsimp only [lay, List.set] at hR
     exact ⟨rfl, (hR.sub exQ)⟩
    ·
     intro hg hS
     omega
set_option maxHeartbeats 1000000 in
set_option maxRecDepth 20000 in
theorem rfNew_ok {S lim : Nat} {l : List HP} {w : World} (hR : Sep l w) (h1 : 1 ≤ S) (h2 : S ≤ 4096) (h3 : 1 ≤ lim) (h4 : lim ≤ 64) : CallR Try.prog 35 [.int .i64 (S : Int), .int .i64 (lim : Int)] w (fun v w' => ∃ q, v = .tuple [refV S lim q (T0 S), .int .i64 0].toArray ∧ Sep (refS rt q (T0 S) :: l) w') := by
 refine enter Try.func35 rfl Try.ntmps35 (Nat.le_of_ble_eq_true rfl) ?_; intro aa hS
 refine wp_seq_k ?_; intro K821 hK821
 refine wp_region_lit ?_
 refine sB (Balloc hS hR info80 (by rfl) (by rfl) (by decide) ?_); clear hS hR; intro aa ww bb4 hS hR
 revert aa
 refine qN hR ?_
 intro aa hS
 refine wpList_nil ?_
 refine hK821 _ _ ?_
 refine wp_seq_k ?_; intro K822 hK822
 refine wp_seq_k ?_; intro K823 hK823
 refine wp_region_lit ?_
 revert aa
 refine qM hR ?_
 refine qA hR rfl (fun _ hS => Yld.lss hS rfl rfl) ?_
 refine qB (t := 9) false rfl (by exact decide_eq_false (by omega)) ?_
 refine qM hR ?_
 refine qMg hR ?_
 refine qAg hR rfl rfl rfl (fun _ hS => Yld.gtr hS rfl rfl) ?_
 refine qB (t := 12) false rfl (by exact decide_eq_false (by omega)) ?_
 refine qA hR rfl (fun _ hS => Yld.pickF hS rfl rfl) ?_
 refine qM hR ?_
 refine qMg hR ?_
 refine qAg hR rfl rfl rfl (fun _ hS => Yld.lss hS rfl rfl) ?_
 refine qB (t := 16) false rfl (by exact decide_eq_false (by omega)) ?_
 refine qA hR rfl (fun _ hS => Yld.pickF hS rfl rfl) ?_
 refine qM hR ?_
 refine qMg hR ?_
 refine qAg hR rfl rfl rfl (fun _ hS => Yld.gtr hS rfl rfl) ?_
 refine qB (t := 20) false rfl (by exact decide_eq_false (by omega)) ?_
 refine qA hR rfl (fun _ hS => Yld.pickF hS rfl rfl) ?_
 intro aa hS
 refine wpList_nil ?_
 refine hK823 _ _ ?_
 refine condF hS rfl ?_
 refine wp_skip ?_
 refine hK822 _ _ ?_
 refine wp_seq_k ?_; intro K824 hK824
 refine wp_region_lit ?_
 revert aa
 refine qM hR ?_
 refine qM hR ?_
 refine qA hR rfl (fun _ hS => Yld.build hS rfl (bld80_0_1 _ _)) ?_
 intro aa hS
 refine sB (Balloc hS hR info80 (by rfl) (by rfl) (by decide) ?_); clear hS hR; intro aa ww bb6 hS hR
 refine sB (Bstore hS hR rfl rfl (by rfl) info80 (by rfl) pkQ (by rfl) (Nat.le_of_ble_eq_true rfl) ?_); clear hR; intro ww hR
 refine wpList_nil ?_
 refine hK824 _ _ ?_
 refine wp_seq_k ?_; intro K825 hK825
 refine wp_seq_k ?_; intro K826 hK826
 refine wp_region_lit ?_
 revert aa
 refine qN hR ?_
 intro aa hS
 refine wpList_nil ?_
 refine hK826 _ _ ?_
 refine wp_block ?_
 replace hR := hR.slsNil (T := 3) (sz := 1)
 dsimp only [lay, List.set] at hR
 replace hR := hR.pk (r := sls none 0 0 3 1 []) pkQ
 replace hR := hR.pk (r := blk bb6 [.int .i64 (S : Int), .int .i64 (lim : Int), .slice none 0 0, .slice none 0 0, .slice none 0 0] 80) pkQ
 refine loopI (X := Nat × Option Addr × Nat) [(0, _), (4, _), (5, _), (6, _)] (fun x => [(7, .int .i64 (x.1 : Int))]) (fun x => [blk bb6 [.int .i64 (S : Int), .int .i64 (lim : Int), .slice none 0 0, .slice none 0 0, .slice x.2.1 (cst (List.range x.1)).length x.2.2] 80, sls x.2.1 (cst (List.range x.1)).length x.2.2 3 1 ((cst (List.range x.1)).flatMap e1)]) _ (fun x => x.1 ≤ S) (fun x => S - x.1) (0, none, 0) (Nat.zero_le _) (hS.le (Le.cons rfl (Le.nilapp (Le.cons rfl (Le.cons rfl (Le.cons rfl (Le.cons rfl (Le.nil _)))))))) hR ?_
 clear hS hR; rintro ⟨i, r0, c0⟩ aa ww hI hS hR; dsimp only [List.cons_append, List.nil_append] at hI hS hR
 refine wp_seq_k ?_; intro K828 hK828
 refine wp_seq_k ?_; intro K829 hK829
 refine wp_region_lit ?_
 revert aa
 refine qM hR ?_
 refine qM hR ?_
 refine qA hR rfl (fun _ hS => Yld.lss hS rfl rfl) ?_
 intro aa hS
 refine wpList_nil ?_
 refine hK829 _ _ ?_
 refine hS.splitB (t := 28) rfl ?_ ?_ <;> clear hS
 ·
  intro hg hS
  have hrl : (cst (List.range i)).length = i := by rw [cst_len, List.length_range]
  refine condT hS rfl ?_
  refine wp_skip ?_
  refine hK828 _ _ ?_
  refine wp_seq_k ?_; intro K830 hK830
  refine wp_block ?_
  refine wp_region_lit ?_
  revert aa
  refine qA hR rfl (fun _ hS => Yld.fieldAddr hS rfl 4 Try.underlying80 rfl rfl info40 (by decide)) ?_
  refine qA hR rfl (fun _ hS => Yld.load1 hS rfl Try.underlying40 rfl rdQ) ?_
  refine qM hR ?_
  intro aa hS
  refine sB (BbuildSlice hS hR rfl (bls40_1_0 _) (by decide) ?_); clear hS hR; intro aa ww bb34 hS hR
  refine sB (BappendR (sz := 1) hS hR rfl rfl Try.underlying40 info3 rfl rfl (by rfl) pkQ (XC.one ((i : Int)) pkQ (by rfl) rfl) (by intro _; rfl) (by show (_ + _) * 8 ≤ _; first | omega | (simp only [List.length_take, List.length_append, List.length_drop, List.length_cons, List.length_nil, List.length_map]; omega)) (by first | omega | (simp only [List.length_take, List.length_append, List.length_drop, List.length_cons, List.length_nil, List.length_map]; omega)) (by first | rfl | (simp; done) | (simp; omega)) (by decide) ?_); clear hS hR; intro aa ww r35 c35 hS hR
  rw [show cst (List.range i) ++ [(i : Int)] = cst (List.range (i + 1)) from by rw [cst_snoc, ← List.range_succ]] at hS hR
  refine sA hS hR (Yld.fieldAddr hS rfl 4 Try.underlying80 rfl rfl info40 (by decide)) (by decide) ?_; clear hS; intro aa hS
  refine sB (Bstore hS hR rfl rfl (by rfl) info40 (by rfl) pkQ (by rfl) (Nat.le_of_ble_eq_true rfl) ?_); clear hR; intro ww hR
  refine wpList_nil ?_
  refine hK830 _ _ ?_
  refine wp_region_lit ?_
  revert aa
  refine qM hR ?_
  intro aa hS
  refine sA hS hR adQ (by decide) ?_; clear hS; intro aa hS
  revert aa
  refine qN hR ?_
  intro aa hS
  refine wpList_nil ?_
  dsimp only [lay, List.set] at hR
  refine ⟨(i + 1, _, _), ?_, ?_, hS.le (Le.cons rfl (Le.nilapp (Le.cons rfl (Le.cons rfl (Le.cons rfl (Le.cons rfl (Le.nil _))))))), hR.sub (Ex.take pkQ (Ex.take pkQ (Ex.nilapp exQ)))⟩
  ·
   dsimp only; omega
  ·
   dsimp only; omega
 ·
  intro hg hS
  obtain rfl : i = S := by omega
  refine condF hS rfl ?_
  refine wp_exit ?_
  refine hK825 _ _ ?_
  refine wp_seq_k ?_; intro K831 hK831
  refine wp_region_lit ?_
  refine sA hS hR (Yld.loadAgg hS rfl Try.underlying80 rfl info80 rdsQ5 (by rfl)) (by decide) ?_; clear hS; intro aa hS
  refine sB (Bstore hS hR rfl rfl (by rfl) info80 (by rfl) pkQ (by rfl) (Nat.le_of_ble_eq_true rfl) ?_); clear hR; intro ww hR
  revert aa
  refine qN hR ?_
  intro aa hS
  refine wpList_nil ?_
  refine hK831 _ _ ?_
  refine wp_ret ?_
  repeat first | with_reducible refine thenR ?_ | with_reducible refine blockR ?_ | with_reducible refine scopeR ?_
  refine retN (fn := Try.f35) (e := .ret) (.inl rfl) Try.results35 hS hR ⟨_, .cons (.agg rfl Try.underlying80 rfl info80 (Rds.cons (Rd.blk pkQ (by rfl)) (Rds.cons (Rd.blk pkQ (by rfl)) (Rds.cons (Rd.blk pkQ (by rfl)) (Rds.cons (Rd.blk pkQ (by rfl)) (Rds.cons (Rd.blk pkQ (by rfl)) (Rds.nil)))))) (by rfl)) (.cons (.tmp rfl) (.nil)), rfl, ?_⟩
  try dsimp only [lay, List.set] at hR
  replace hR := (hR.slsNil (T := 128) (sz := 2)).slsNil (T := 130) (sz := 2)
  replace hR := Sep.refI (t := rt) (O := []) (R := []) (A := Ar.new i) (n1 := 0) (n2 := 0) (r1 := none) (r2 := none) (c1 := 0) (c2 := 0) (r3 := r0) (c3 := c0) (n3 := (cst (List.range i)).length) rfl rfl rfl (hR.sub exQ : Sep (sls none 0 0 130 2 [] :: sls none 0 0 128 2 [] :: sls r0 (cst (List.range i)).length c0 3 1 ((cst (List.range i)).flatMap e1) :: l) _)
  exact ⟨_, rfl, hR⟩
set_option maxHeartbeats 1000000 in
set_option maxRecDepth 20000 in
theorem rfOpen_bad {S lim : Nat} {q : RQ} {T : So} {l : List HP} {w : World} {a : Int} {x : Int} (hx : ¬ (0 ≤ x ∧ x < S)) (hF : SF S lim T) (h2 : S ≤ 4096) (h4 : lim ≤ 64) (hR : Sep (refS rt q T :: l) w) : CallR Try.prog 36 [refV S lim q T, .int .u32 a, .int .i64 x] w (fun v w' => ∃ q, v = .tuple [refV S lim q T, .int .i64 2].toArray ∧ Sep (refS rt q T :: l) w') := by
 refine enter Try.func36 rfl Try.ntmps36 (Nat.le_of_ble_eq_true rfl) ?_; intro aa hS
 have hB := hF.rb h2
 have hBo := hB.o
 have hBr := hB.r
 have hBf := hB.f
 refine wp_seq_k ?_; intro K832 hK832
 refine wp_region_lit ?_
 refine sB (Bbox hS hR rfl (by rfl) (by decide) ?_); clear hS hR; intro aa ww bb3 hS hR
 refine sB (Balloc hS hR info80 (by rfl) (by rfl) (by decide) ?_); clear hS hR; intro aa ww bb6 hS hR
 revert aa
 refine qN hR ?_
 intro aa hS
 refine wpList_nil ?_
 refine hK832 _ _ ?_
 refine wp_seq_k ?_; intro K833 hK833
 refine wp_seq_k ?_; intro K834 hK834
 refine wp_region_lit ?_
 revert aa
 refine qM hR ?_
 refine qA hR rfl (fun _ hS => Yld.lss hS rfl rfl) ?_
 refine qM hR ?_
 intro aa hS
 refine hS.splitB (t := 14) rfl ?_ ?_ <;> clear hS
 ·
  intro hg hS
  revert aa
  refine qZ ?_
  refine qZ ?_
  refine qZ ?_
  refine qZ ?_
  refine qA hR rfl (fun _ hS => Yld.pickT hS rfl rfl) ?_
  intro aa hS
  refine wpList_nil ?_
  refine hK834 _ _ ?_
  refine condT hS rfl ?_
  refine wp_seq_k ?_; intro K835 hK835
  refine wp_region_lit ?_
  refine sA hS hR (Yld.loadAgg hS rfl Try.underlying80 rfl info80 rdsQ5 (by rfl)) (by decide) ?_; clear hS; intro aa hS
  refine sB (Bstore hS hR rfl rfl (by rfl) info80 (by rfl) pkQ (by rfl) (Nat.le_of_ble_eq_true rfl) ?_); clear hR; intro ww hR
  revert aa
  refine qN hR ?_
  intro aa hS
  refine wpList_nil ?_
  refine hK835 _ _ ?_
  refine wp_ret ?_
  repeat first | with_reducible refine thenR ?_ | with_reducible refine blockR ?_ | with_reducible refine scopeR ?_
  refine retN (fn := Try.f36) (e := .ret) (.inl rfl) Try.results36 hS hR ⟨_, .cons (.agg rfl Try.underlying80 rfl info80 (Rds.cons (Rd.blk pkQ (by rfl)) (Rds.cons (Rd.blk pkQ (by rfl)) (Rds.cons (Rd.blk pkQ (by rfl)) (Rds.cons (Rd.blk pkQ (by rfl)) (Rds.cons (Rd.blk pkQ (by rfl)) (Rds.nil)))))) (by rfl)) (.cons (.tmp rfl) (.nil)), rfl, ?_⟩
  try dsimp only [lay, List.set] at hR
  exact ⟨q, rfl, (hR.sub exQ)⟩
 ·
  intro hg hS
  revert aa
  refine qMg hR ?_
  refine qAg hR rfl rfl rfl (fun _ hS => Yld.fieldAddr hS rfl 0 Try.underlying80 rfl rfl info3 (by decide)) ?_
  refine qAg hR rfl rfl rfl (fun _ hS => Yld.load1 hS rfl Try.underlying3 rfl rdQ) ?_
  refine qAg hR rfl rfl rfl (fun _ hS => Yld.geq hS rfl rfl) ?_
  refine qA hR rfl (fun _ hS => Yld.pickF hS rfl rfl) ?_
  intro aa hS
  refine wpList_nil ?_
  refine hK834 _ _ ?_
  refine hS.splitB (t := 19) rfl ?_ ?_ <;> clear hS
  ·
   intro hg hS
   refine condT hS rfl ?_
   refine wp_seq_k ?_; intro K836 hK836
   refine wp_region_lit ?_
   refine sA hS hR (Yld.loadAgg hS rfl Try.underlying80 rfl info80 rdsQ5 (by rfl)) (by decide) ?_; clear hS; intro aa hS
   refine sB (Bstore hS hR rfl rfl (by rfl) info80 (by rfl) pkQ (by rfl) (Nat.le_of_ble_eq_true rfl) ?_); clear hR; intro ww hR
   revert aa
   refine qN hR ?_
   intro aa hS
   refine wpList_nil ?_
   refine hK836 _ _ ?_
   refine wp_ret ?_
   repeat first | with_reducible refine thenR ?_ | with_reducible refine blockR ?_ | with_reducible refine scopeR ?_
   refine retN (fn := Try.f36) (e := .ret) (.inl rfl) Try.results36 hS hR ⟨_, .cons (.agg rfl Try.underlying80 rfl info80 (Rds.cons (Rd.blk pkQ (by rfl)) (Rds.cons (Rd.blk pkQ (by rfl)) (Rds.cons (Rd.blk pkQ (by rfl)) (Rds.cons (Rd.blk pkQ (by rfl)) (Rds.cons (Rd.blk pkQ (by rfl)) (Rds.nil)))))) (by rfl)) (.cons (.tmp rfl) (.nil)), rfl, ?_⟩
   try dsimp only [lay, List.set] at hR
   exact ⟨q, rfl, (hR.sub exQ)⟩
  ·
   intro hg hS
   omega
set_option maxHeartbeats 1000000 in
set_option maxRecDepth 20000 in
theorem rfOpen_there {S lim : Nat} {q : RQ} {T : So} {l : List HP} {w : World} {a : Int} {s : Nat} (hs : s < S) {o : Int} (hq : ofO T.O (s : Int) = some o) (hF : SF S lim T) (h2 : S ≤ 4096) (h4 : lim ≤ 64) (hR : Sep (refS rt q T :: l) w) : CallR Try.prog 36 [refV S lim q T, .int .u32 a, .int .i64 (s : Int)] w (fun v w' => ∃ q, v = .tuple [refV S lim q T, .int .i64 310].toArray ∧ Sep (refS rt q T :: l) w') := by
 refine enter Try.func36 rfl Try.ntmps36 (Nat.le_of_ble_eq_true rfl) ?_; intro aa hS
 have hB := hF.rb h2
 have hBo := hB.o
 have hBr := hB.r
 have hBf := hB.f
 refine wp_seq_k ?_; intro K837 hK837
 refine wp_region_lit ?_
 refine sB (Bbox hS hR rfl (by rfl) (by decide) ?_); clear hS hR; intro aa ww bb3 hS hR
 refine sB (Balloc hS hR info80 (by rfl) (by rfl) (by decide) ?_); clear hS hR; intro aa ww bb6 hS hR
 revert aa
 refine qN hR ?_
 intro aa hS
 refine wpList_nil ?_
 refine hK837 _ _ ?_
 refine wp_seq_k ?_; intro K838 hK838
 refine wp_seq_k ?_; intro K839 hK839
 refine wp_region_lit ?_
 revert aa
 refine qM hR ?_
 refine qA hR rfl (fun _ hS => Yld.lss hS rfl rfl) ?_
 refine qM hR ?_
 refine qB (t := 14) false rfl (by exact decide_eq_false (by omega)) ?_
 refine qMg hR ?_
 refine qAg hR rfl rfl rfl (fun _ hS => Yld.fieldAddr hS rfl 0 Try.underlying80 rfl rfl info3 (by decide)) ?_
 refine qAg hR rfl rfl rfl (fun _ hS => Yld.load1 hS rfl Try.underlying3 rfl rdQ) ?_
 refine qAg hR rfl rfl rfl (fun _ hS => Yld.geq hS rfl rfl) ?_
 refine qB (t := 18) false rfl (by exact decide_eq_false (by omega)) ?_
 refine qA hR rfl (fun _ hS => Yld.pickF hS rfl rfl) ?_
 intro aa hS
 refine wpList_nil ?_
 refine hK839 _ _ ?_
 refine condF hS rfl ?_
 refine wp_skip ?_
 refine hK838 _ _ ?_
 refine wp_seq_k ?_; intro K840 hK840
 refine wp_seq_k ?_; intro K841 hK841
 refine wp_region_lit ?_
 refine sA hS hR (Yld.loadAgg hS rfl Try.underlying80 rfl info80 rdsQ5 (by rfl)) (by decide) ?_; clear hS; intro aa hS
 revert aa
 refine qM hR ?_
 intro aa hS
 refine sB (Bcall hS rfl Try.call60 (rfOf_ok (z := (s : Int)) hB (hR.pk (r := refS _ _ _) pkQ)) (by decide) ?_); clear hS; intro aa ww vv hS hp
 clear hR
 obtain ⟨rfl, hR⟩ := hp
 rw [hq] at hS
 dsimp only [Option.getD, Option.isSome] at hS
 revert aa
 refine qM hR ?_
 refine qX hR ?_
 refine qX hR ?_
 refine qB (t := 26) true rfl (by rfl) ?_
 refine qN hR ?_
 refine qN hR ?_
 intro aa hS
 refine wpList_nil ?_
 refine hK841 _ _ ?_
 refine wp_seq_k ?_; intro K842 hK842
 refine wp_region_lit ?_
 revert aa
 refine qM hR ?_
 intro aa hS
 refine wpList_nil ?_
 refine hK842 _ _ ?_
 refine condT hS rfl ?_
 refine wp_seq_k ?_; intro K843 hK843
 refine wp_region_lit ?_
 refine sA hS hR (Yld.loadAgg hS rfl Try.underlying80 rfl info80 rdsQ5 (by rfl)) (by decide) ?_; clear hS; intro aa hS
 refine sB (Bstore hS hR rfl rfl (by rfl) info80 (by rfl) pkQ (by rfl) (Nat.le_of_ble_eq_true rfl) ?_); clear hR; intro ww hR
 revert aa
 refine qN hR ?_
 intro aa hS
 refine wpList_nil ?_
 refine hK843 _ _ ?_
 refine wp_ret ?_
 repeat first | with_reducible refine thenR ?_ | with_reducible refine blockR ?_ | with_reducible refine scopeR ?_
 refine retN (fn := Try.f36) (e := .ret) (.inl rfl) Try.results36 hS hR ⟨_, .cons (.agg rfl Try.underlying80 rfl info80 (Rds.cons (Rd.blk pkQ (by rfl)) (Rds.cons (Rd.blk pkQ (by rfl)) (Rds.cons (Rd.blk pkQ (by rfl)) (Rds.cons (Rd.blk pkQ (by rfl)) (Rds.cons (Rd.blk pkQ (by rfl)) (Rds.nil)))))) (by rfl)) (.cons (.tmp rfl) (.nil)), rfl, ?_⟩
 try dsimp only [lay, List.set] at hR
 exact ⟨q, rfl, (hR.sub exQ)⟩
set_option maxHeartbeats 1000000 in
set_option maxRecDepth 20000 in
theorem rfOpen_full {S lim : Nat} {q : RQ} {T : So} {l : List HP} {w : World} {a : Int} {s : Nat} (hs : s < S) (hn : ofO T.O (s : Int) = none) (hl : lim ≤ (slO T.O a).length) (hF : SF S lim T) (h2 : S ≤ 4096) (h4 : lim ≤ 64) (hR : Sep (refS rt q T :: l) w) : CallR Try.prog 36 [refV S lim q T, .int .u32 a, .int .i64 (s : Int)] w (fun v w' => ∃ q, v = .tuple [refV S lim q T, .int .i64 4].toArray ∧ Sep (refS rt q T :: l) w') := by
 refine enter Try.func36 rfl Try.ntmps36 (Nat.le_of_ble_eq_true rfl) ?_; intro aa hS
 have hB := hF.rb h2
 have hBo := hB.o
 have hBr := hB.r
 have hBf := hB.f
 have hlm := hF.lim a
 have hcl := cst_len (l := slO T.O a)
 refine wp_seq_k ?_; intro K844 hK844
 refine wp_region_lit ?_
 refine sB (Bbox hS hR rfl (by rfl) (by decide) ?_); clear hS hR; intro aa ww bb3 hS hR
 refine sB (Balloc hS hR info80 (by rfl) (by rfl) (by decide) ?_); clear hS hR; intro aa ww bb6 hS hR
 revert aa
 refine qN hR ?_
 intro aa hS
 refine wpList_nil ?_
 refine hK844 _ _ ?_
 refine wp_seq_k ?_; intro K845 hK845
 refine wp_seq_k ?_; intro K846 hK846
 refine wp_region_lit ?_
 revert aa
 refine qM hR ?_
 refine qA hR rfl (fun _ hS => Yld.lss hS rfl rfl) ?_
 refine qM hR ?_
 refine qB (t := 14) false rfl (by exact decide_eq_false (by omega)) ?_
 refine qMg hR ?_
 refine qAg hR rfl rfl rfl (fun _ hS => Yld.fieldAddr hS rfl 0 Try.underlying80 rfl rfl info3 (by decide)) ?_
 refine qAg hR rfl rfl rfl (fun _ hS => Yld.load1 hS rfl Try.underlying3 rfl rdQ) ?_
 refine qAg hR rfl rfl rfl (fun _ hS => Yld.geq hS rfl rfl) ?_
 refine qB (t := 18) false rfl (by exact decide_eq_false (by omega)) ?_
 refine qA hR rfl (fun _ hS => Yld.pickF hS rfl rfl) ?_
 intro aa hS
 refine wpList_nil ?_
 refine hK846 _ _ ?_
 refine condF hS rfl ?_
 refine wp_skip ?_
 refine hK845 _ _ ?_
 refine wp_seq_k ?_; intro K847 hK847
 refine wp_seq_k ?_; intro K848 hK848
 refine wp_region_lit ?_
 refine sA hS hR (Yld.loadAgg hS rfl Try.underlying80 rfl info80 rdsQ5 (by rfl)) (by decide) ?_; clear hS; intro aa hS
 revert aa
 refine qM hR ?_
 intro aa hS
 refine sB (Bcall hS rfl Try.call60 (rfOf_ok (z := (s : Int)) hB (hR.pk (r := refS _ _ _) pkQ)) (by decide) ?_); clear hS; intro aa ww vv hS hp
 clear hR
 obtain ⟨rfl, hR⟩ := hp
 rw [hn] at hS
 dsimp only [Option.getD, Option.isSome] at hS
 revert aa
 refine qM hR ?_
 refine qX hR ?_
 refine qX hR ?_
 refine qB (t := 26) false rfl (by rfl) ?_
 refine qN hR ?_
 refine qN hR ?_
 intro aa hS
 refine wpList_nil ?_
 refine hK848 _ _ ?_
 refine wp_seq_k ?_; intro K849 hK849
 refine wp_region_lit ?_
 revert aa
 refine qM hR ?_
 intro aa hS
 refine wpList_nil ?_
 refine hK849 _ _ ?_
 refine condF hS rfl ?_
 refine wp_skip ?_
 refine hK847 _ _ ?_
 refine wp_seq_k ?_; intro K850 hK850
 refine wp_seq_k ?_; intro K851 hK851
 refine drawn (by kernel_rfl) hR Ex.refl ?_; clear hR; intro ww hR hR0
 refine dA 0 rfl (by kernel_rfl) (by kernel_rfl) (by kernel_rfl) (fun _ _ _ h => h) hS hR0 (Yld.loadAgg hS rfl Try.underlying80 rfl info80 rdsQ5 (by rfl)) (by decide) ?_; clear hS; intro aa hS
 revert aa
 refine eA 1 rfl (by kernel_rfl) (fun _ _ _ h => h) hR0 rfl (fun _ hS => Yld.move hS rfl) ?_
 refine eA 4 rfl (by kernel_rfl) (fun _ _ _ h => h) hR0 rfl (fun _ hS => Yld.fieldAddr hS rfl 1 Try.underlying80 rfl rfl info3 (by decide)) ?_
 refine eA 5 rfl (by kernel_rfl) (fun _ _ _ h => h) hR0 rfl (fun _ hS => Yld.load1 hS rfl Try.underlying3 rfl rdQ) ?_
 intro aa hS
 refine dOne (i := 2) (by kernel_rfl) ?_
 refine dop rfl (Bcall hS rfl Try.call61 (rfSlots_ok (a := a) hB (hR.pk (r := refS _ _ _) pkQ)) (by decide) ?_); clear hS; intro aa ww vv hS hp
 clear hR hR0
 obtain ⟨rz, cz, rfl, hR⟩ := hp
 
 refine dnext (hR.sub exQ) ?_; intro hR0
 revert aa
 refine eA 3 rfl (by kernel_rfl) (fun _ _ _ h => h) hR0 rfl (fun _ hS => Yld.len hS rfl Try.underlying40) ?_
 refine eA 6 rfl (by kernel_rfl) (fun _ _ _ h => h) hR0 rfl (fun _ hS => Yld.eql hS rfl rfl) ?_
 refine qB (t := 35) true rfl (by exact decide_eq_true (by omega)) ?_
 intro aa hS
 refine wpAnyH_done (by kernel_rfl) ?_ _; clear hR0
 refine hK851 _ _ ?_
 refine condT hS rfl ?_
 refine wp_seq_k ?_; intro K852 hK852
 refine wp_region_lit ?_
 refine sA hS hR (Yld.loadAgg hS rfl Try.underlying80 rfl info80 rdsQ5 (by rfl)) (by decide) ?_; clear hS; intro aa hS
 refine sB (Bstore hS hR rfl rfl (by rfl) info80 (by rfl) pkQ (by rfl) (Nat.le_of_ble_eq_true rfl) ?_); clear hR; intro ww hR
 revert aa
 refine qN hR ?_
 intro aa hS
 refine wpList_nil ?_
 refine hK852 _ _ ?_
 refine wp_ret ?_
 repeat first | with_reducible refine thenR ?_ | with_reducible refine blockR ?_ | with_reducible refine scopeR ?_
 refine retN (fn := Try.f36) (e := .ret) (.inl rfl) Try.results36 hS hR ⟨_, .cons (.agg rfl Try.underlying80 rfl info80 (Rds.cons (Rd.blk pkQ (by rfl)) (Rds.cons (Rd.blk pkQ (by rfl)) (Rds.cons (Rd.blk pkQ (by rfl)) (Rds.cons (Rd.blk pkQ (by rfl)) (Rds.cons (Rd.blk pkQ (by rfl)) (Rds.nil)))))) (by rfl)) (.cons (.tmp rfl) (.nil)), rfl, ?_⟩
 try dsimp only [lay, List.set] at hR
 exact ⟨q, rfl, (hR.sub exQ)⟩
set_option maxHeartbeats 1000000 in
set_option maxRecDepth 20000 in
theorem rfOpen_old {S lim : Nat} {q : RQ} {T : So} {l : List HP} {w : World} {a : Int} {s : Nat} (hs : s < S) (hn : ofO T.O (s : Int) = none) (hl : (slO T.O a).length < lim) {r : Nat} (hr : rcR T.R a = some r) (hF : SF S lim T) (h2 : S ≤ 4096) (h4 : lim ≤ 64) (hR : Sep (refS rt q T :: l) w) : CallR Try.prog 36 [refV S lim q T, .int .u32 a, .int .i64 (s : Int)] w (fun v w' => ∃ q, v = .tuple [refV S lim q { O := T.O ++ [(a, s)], R := T.R, A := T.A }, .int .i64 0].toArray ∧ Sep (refS rt q { O := T.O ++ [(a, s)], R := T.R, A := T.A } :: l) w') := by
 refine enter Try.func36 rfl Try.ntmps36 (Nat.le_of_ble_eq_true rfl) ?_; intro aa hS
 have hB := hF.rb h2
 have hBo := hB.o
 have hBr := hB.r
 have hBf := hB.f
 have hcl := cst_len (l := slO T.O a)
 have hro := hF.oroom hs hn
 refine wp_seq_k ?_; intro K853 hK853
 refine wp_region_lit ?_
 refine sB (Bbox hS hR rfl (by rfl) (by decide) ?_); clear hS hR; intro aa ww bb3 hS hR
 refine sB (Balloc hS hR info80 (by rfl) (by rfl) (by decide) ?_); clear hS hR; intro aa ww bb6 hS hR
 revert aa
 refine qN hR ?_
 intro aa hS
 refine wpList_nil ?_
 refine hK853 _ _ ?_
 refine wp_seq_k ?_; intro K854 hK854
 refine wp_seq_k ?_; intro K855 hK855
 refine wp_region_lit ?_
 revert aa
 refine qM hR ?_
 refine qA hR rfl (fun _ hS => Yld.lss hS rfl rfl) ?_
 refine qM hR ?_
 refine qB (t := 14) false rfl (by exact decide_eq_false (by omega)) ?_
 refine qMg hR ?_
 refine qAg hR rfl rfl rfl (fun _ hS => Yld.fieldAddr hS rfl 0 Try.underlying80 rfl rfl info3 (by decide)) ?_
 refine qAg hR rfl rfl rfl (fun _ hS => Yld.load1 hS rfl Try.underlying3 rfl rdQ) ?_
 refine qAg hR rfl rfl rfl (fun _ hS => Yld.geq hS rfl rfl) ?_
 refine qB (t := 18) false rfl (by exact decide_eq_false (by omega)) ?_
 refine qA hR rfl (fun _ hS => Yld.pickF hS rfl rfl) ?_
 intro aa hS
 refine wpList_nil ?_
 refine hK855 _ _ ?_
 refine condF hS rfl ?_
 refine wp_skip ?_
 refine hK854 _ _ ?_
 refine wp_seq_k ?_; intro K856 hK856
 refine wp_seq_k ?_; intro K857 hK857
 refine wp_region_lit ?_
 refine sA hS hR (Yld.loadAgg hS rfl Try.underlying80 rfl info80 rdsQ5 (by rfl)) (by decide) ?_; clear hS; intro aa hS
 revert aa
 refine qM hR ?_
 intro aa hS
 refine sB (Bcall hS rfl Try.call60 (rfOf_ok (z := (s : Int)) hB (hR.pk (r := refS _ _ _) pkQ)) (by decide) ?_); clear hS; intro aa ww vv hS hp
 clear hR
 obtain ⟨rfl, hR⟩ := hp
 rw [hn] at hS
 dsimp only [Option.getD, Option.isSome] at hS
 revert aa
 refine qM hR ?_
 refine qX hR ?_
 refine qX hR ?_
 refine qB (t := 26) false rfl (by rfl) ?_
 refine qN hR ?_
 refine qN hR ?_
 intro aa hS
 refine wpList_nil ?_
 refine hK857 _ _ ?_
 refine wp_seq_k ?_; intro K858 hK858
 refine wp_region_lit ?_
 revert aa
 refine qM hR ?_
 intro aa hS
 refine wpList_nil ?_
 refine hK858 _ _ ?_
 refine condF hS rfl ?_
 refine wp_skip ?_
 refine hK856 _ _ ?_
 refine wp_seq_k ?_; intro K859 hK859
 refine wp_seq_k ?_; intro K860 hK860
 refine drawn (by kernel_rfl) hR Ex.refl ?_; clear hR; intro ww hR hR0
 refine dA 0 rfl (by kernel_rfl) (by kernel_rfl) (by kernel_rfl) (fun _ _ _ h => h) hS hR0 (Yld.loadAgg hS rfl Try.underlying80 rfl info80 rdsQ5 (by rfl)) (by decide) ?_; clear hS; intro aa hS
 revert aa
 refine eA 1 rfl (by kernel_rfl) (fun _ _ _ h => h) hR0 rfl (fun _ hS => Yld.move hS rfl) ?_
 refine eA 4 rfl (by kernel_rfl) (fun _ _ _ h => h) hR0 rfl (fun _ hS => Yld.fieldAddr hS rfl 1 Try.underlying80 rfl rfl info3 (by decide)) ?_
 refine eA 5 rfl (by kernel_rfl) (fun _ _ _ h => h) hR0 rfl (fun _ hS => Yld.load1 hS rfl Try.underlying3 rfl rdQ) ?_
 intro aa hS
 refine dOne (i := 2) (by kernel_rfl) ?_
 refine dop rfl (Bcall hS rfl Try.call61 (rfSlots_ok (a := a) hB (hR.pk (r := refS _ _ _) pkQ)) (by decide) ?_); clear hS; intro aa ww vv hS hp
 clear hR hR0
 obtain ⟨rz, cz, rfl, hR⟩ := hp
 
 refine dnext (hR.sub exQ) ?_; intro hR0
 revert aa
 refine eA 3 rfl (by kernel_rfl) (fun _ _ _ h => h) hR0 rfl (fun _ hS => Yld.len hS rfl Try.underlying40) ?_
 refine eA 6 rfl (by kernel_rfl) (fun _ _ _ h => h) hR0 rfl (fun _ hS => Yld.eql hS rfl rfl) ?_
 refine qB (t := 35) false rfl (by exact decide_eq_false (by omega)) ?_
 intro aa hS
 refine wpAnyH_done (by kernel_rfl) ?_ _; clear hR0
 refine hK860 _ _ ?_
 refine condF hS rfl ?_
 refine wp_skip ?_
 refine hK859 _ _ ?_
 refine wp_seq_k ?_; intro K861 hK861
 refine wp_seq_k ?_; intro K862 hK862
 refine wp_region_lit ?_
 refine sA hS hR (Yld.loadAgg hS rfl Try.underlying80 rfl info80 rdsQ5 (by rfl)) (by decide) ?_; clear hS; intro aa hS
 revert aa
 refine qM hR ?_
 intro aa hS
 refine sB (Bcall hS rfl Try.call62 (rfRecord_ok (a := a) hB (hR.pk (r := refS _ _ _) pkQ)) (by decide) ?_); clear hS; intro aa ww vv hS hp
 clear hR
 obtain ⟨rfl, hR⟩ := hp
 rw [hr] at hS
 dsimp only [optV, Option.getD, Option.isSome] at hS
 revert aa
 refine qM hR ?_
 refine qX hR ?_
 refine qX hR ?_
 refine qB (t := 42) true rfl (by rfl) ?_
 refine qN hR ?_
 refine qN hR ?_
 intro aa hS
 refine wpList_nil ?_
 refine hK862 _ _ ?_
 refine wp_seq_k ?_; intro K863 hK863
 refine wp_region_lit ?_
 revert aa
 refine qM hR ?_
 refine qA hR rfl (fun _ hS => Yld.not hS rfl) ?_
 intro aa hS
 refine wpList_nil ?_
 refine hK863 _ _ ?_
 refine condF hS rfl ?_
 refine wp_skip ?_
 refine hK861 _ _ ?_
 refine wp_seq_k ?_; intro K864 hK864
 refine wp_region_lit ?_
 refine sB (BbuildSlice hS hR rfl (bls77_0_) (by decide) ?_); clear hS hR; intro aa ww bb64 hS hR
 replace hR := hR.pk (r := blk bb64 _ _) pkQ
 replace hR := Sep.toRecs (m := 0) (sz := 2) (enc := eO) (([] : List (Int × Nat))) hR rfl (by intro _; rfl) rfl
 refine sA hS hR (Yld.fieldAddr hS rfl 2 Try.underlying80 rfl rfl info77 (by decide)) (by decide) ?_; clear hS; intro aa hS
 replace hR := (hR.pk (r := refS _ _ _) pkQ).refE
 refine sA hS hR (Yld.load1 hS rfl Try.underlying77 rfl rdQ) (by decide) ?_; clear hS; intro aa hS
 refine sB (BappendR (sz := 2) hS hR rfl rfl Try.underlying77 info130 rfl rfl (by rfl) pkQ (XC.all pkQ) (by intro _; rfl) (by show (_ + _) * 16 ≤ _; first | omega | (simp only [List.length_take, List.length_append, List.length_drop, List.length_cons, List.length_nil, List.length_map]; omega)) (by first | omega | (simp only [List.length_take, List.length_append, List.length_drop, List.length_cons, List.length_nil, List.length_map]; omega)) (by first | rfl | (simp; done) | (simp; omega)) (by decide) ?_); clear hS hR; intro aa ww r67 c67 hS hR
 rw [List.nil_append] at hS hR
 revert aa
 refine qM hR ?_
 refine qM hR ?_
 refine qA hR rfl (fun _ hS => Yld.build hS rfl (bld130_0_1 _ _)) ?_
 intro aa hS
 refine sB (BbuildSlice hS hR rfl (bls77_1_0 _ _) (by decide) ?_); clear hS hR; intro aa ww bb71 hS hR
 replace hR := hR.pk (r := blk bb71 _ _) pkQ
 replace hR := Sep.toRecs (m := 1) (sz := 2) (enc := eO) ([(a, s)]) hR rfl (by intro _; rfl) rfl
 refine sB (BappendR (sz := 2) hS hR rfl rfl Try.underlying77 info130 rfl rfl (by rfl) pkQ (XC.all pkQ) (by intro _; rfl) (by show (_ + _) * 16 ≤ _; first | omega | (simp only [List.length_take, List.length_append, List.length_drop, List.length_cons, List.length_nil, List.length_map]; omega)) (by first | omega | (simp only [List.length_take, List.length_append, List.length_drop, List.length_cons, List.length_nil, List.length_map]; omega)) (by first | rfl | (simp; done) | (simp; omega)) (by decide) ?_); clear hS hR; intro aa ww r72 c72 hS hR
 refine sA hS hR (Yld.fieldAddr hS rfl 2 Try.underlying80 rfl rfl info77 (by decide)) (by decide) ?_; clear hS; intro aa hS
 refine sB (Bstore hS hR rfl rfl (by rfl) info77 (by rfl) pkQ (by rfl) (Nat.le_of_ble_eq_true rfl) ?_); clear hR; intro ww hR
 refine wpList_nil ?_
 refine hK864 _ _ ?_
 refine wp_seq_k ?_; intro K865 hK865
 refine wp_region_lit ?_
 refine sA hS hR (Yld.loadAgg hS rfl Try.underlying80 rfl info80 rdsQ5 (by rfl)) (by decide) ?_; clear hS; intro aa hS
 refine sB (Bstore hS hR rfl rfl (by rfl) info80 (by rfl) pkQ (by rfl) (Nat.le_of_ble_eq_true rfl) ?_); clear hR; intro ww hR
 revert aa
 refine qN hR ?_
 intro aa hS
 refine wpList_nil ?_
 refine hK865 _ _ ?_
 refine wp_ret ?_
 repeat first | with_reducible refine thenR ?_ | with_reducible refine blockR ?_ | with_reducible refine scopeR ?_
 refine retN (fn := Try.f36) (e := .ret) (.inl rfl) Try.results36 hS hR ⟨_, .cons (.agg rfl Try.underlying80 rfl info80 (Rds.cons (Rd.blk pkQ (by rfl)) (Rds.cons (Rd.blk pkQ (by rfl)) (Rds.cons (Rd.blk pkQ (by rfl)) (Rds.cons (Rd.blk pkQ (by rfl)) (Rds.cons (Rd.blk pkQ (by rfl)) (Rds.nil)))))) (by rfl)) (.cons (.tmp rfl) (.nil)), rfl, ?_⟩
 try dsimp only [lay, List.set] at hR
 replace hR := Sep.refI (t := rt) (O := T.O ++ [(a, s)]) (R := T.R) (A := T.A) rfl rfl rfl (hR.sub exQ)
 exact ⟨_, rfl, (hR.sub exQ)⟩
set_option maxHeartbeats 1000000 in
set_option maxRecDepth 20000 in
theorem rfOpen_new {S lim : Nat} {q : RQ} {T : So} {l : List HP} {w : World} {a : Int} {s : Nat} (hs : s < S) (hn : ofO T.O (s : Int) = none) (hl : (slO T.O a).length < lim) {f : Nat} {fs : List Nat} (hr : rcR T.R a = none) (he : T.A.free = f :: fs) (hF : SF S lim T) (h2 : S ≤ 4096) (h4 : lim ≤ 64) (hR : Sep (refS rt q T :: l) w) : CallR Try.prog 36 [refV S lim q T, .int .u32 a, .int .i64 (s : Int)] w (fun v w' => ∃ q, v = .tuple [refV S lim q { O := T.O ++ [(a, s)], R := T.R ++ [(a, f)], A := T.A.take }, .int .i64 0].toArray ∧ Sep (refS rt q { O := T.O ++ [(a, s)], R := T.R ++ [(a, f)], A := T.A.take } :: l) w') := by
 refine enter Try.func36 rfl Try.ntmps36 (Nat.le_of_ble_eq_true rfl) ?_; intro aa hS
 have hB := hF.rb h2
 have hBo := hB.o
 have hBr := hB.r
 have hBf := hB.f
 have hcl := cst_len (l := slO T.O a)
 have hro := hF.oroom hs hn
 have hcf := cst_len (l := T.A.free)
 have hfl : T.A.free.length = fs.length + 1 := by rw [he]; rfl
 have hft : T.A.take.free = fs := by simp [Ar.take, he]
 refine wp_seq_k ?_; intro K866 hK866
 refine wp_region_lit ?_
 refine sB (Bbox hS hR rfl (by rfl) (by decide) ?_); clear hS hR; intro aa ww bb3 hS hR
 refine sB (Balloc hS hR info80 (by rfl) (by rfl) (by decide) ?_); clear hS hR; intro aa ww bb6 hS hR
 replace hR := hR.pk (r := blk bb6 _ _) pkQ
 change Sep (blk bb6 [.int .i64 0, .int .i64 0, .slice none 0 0, .slice none 0 0, .slice none 0 0] 80 :: _) _ at hR
 revert aa
 refine qN hR ?_
 intro aa hS
 refine wpList_nil ?_
 refine hK866 _ _ ?_
 refine wp_seq_k ?_; intro K867 hK867
 refine wp_seq_k ?_; intro K868 hK868
 refine wp_region_lit ?_
 revert aa
 refine qM hR ?_
 refine qA hR rfl (fun _ hS => Yld.lss hS rfl rfl) ?_
 refine qM hR ?_
 refine qB (t := 14) false rfl (by exact decide_eq_false (by omega)) ?_
 refine qMg hR ?_
 refine qAg hR rfl rfl rfl (fun _ hS => Yld.fieldAddr hS rfl 0 Try.underlying80 rfl rfl info3 (by decide)) ?_
 refine qAg hR rfl rfl rfl (fun _ hS => Yld.load1 hS rfl Try.underlying3 rfl rdQ) ?_
 refine qAg hR rfl rfl rfl (fun _ hS => Yld.geq hS rfl rfl) ?_
 refine qB (t := 18) false rfl (by exact decide_eq_false (by omega)) ?_
 refine qA hR rfl (fun _ hS => Yld.pickF hS rfl rfl) ?_
 intro aa hS
 refine wpList_nil ?_
 refine hK868 _ _ ?_
 refine condF hS rfl ?_
 refine wp_skip ?_
 refine hK867 _ _ ?_
 refine wp_seq_k ?_; intro K869 hK869
 refine wp_seq_k ?_; intro K870 hK870
 refine wp_region_lit ?_
 refine sA hS hR (Yld.loadAgg hS rfl Try.underlying80 rfl info80 rdsQ5 (by rfl)) (by decide) ?_; clear hS; intro aa hS
 revert aa
 refine qM hR ?_
 intro aa hS
 refine sB (Bcall hS rfl Try.call60 (rfOf_ok (z := (s : Int)) hB (hR.pk (r := refS _ _ _) pkQ)) (by decide) ?_); clear hS; intro aa ww vv hS hp
 clear hR
 obtain ⟨rfl, hR⟩ := hp
 rw [hn] at hS
 dsimp only [Option.getD, Option.isSome] at hS
 revert aa
 refine qM hR ?_
 refine qX hR ?_
 refine qX hR ?_
 refine qB (t := 26) false rfl (by rfl) ?_
 refine qN hR ?_
 refine qN hR ?_
 intro aa hS
 refine wpList_nil ?_
 refine hK870 _ _ ?_
 refine wp_seq_k ?_; intro K871 hK871
 refine wp_region_lit ?_
 revert aa
 refine qM hR ?_
 intro aa hS
 refine wpList_nil ?_
 refine hK871 _ _ ?_
 refine condF hS rfl ?_
 refine wp_skip ?_
 refine hK869 _ _ ?_
 refine wp_seq_k ?_; intro K872 hK872
 refine wp_seq_k ?_; intro K873 hK873
 refine drawn (by kernel_rfl) hR Ex.refl ?_; clear hR; intro ww hR hR0
 refine dA 0 rfl (by kernel_rfl) (by kernel_rfl) (by kernel_rfl) (fun _ _ _ h => h) hS hR0 (Yld.loadAgg hS rfl Try.underlying80 rfl info80 rdsQ5 (by rfl)) (by decide) ?_; clear hS; intro aa hS
 revert aa
 refine eA 1 rfl (by kernel_rfl) (fun _ _ _ h => h) hR0 rfl (fun _ hS => Yld.move hS rfl) ?_
 refine eA 4 rfl (by kernel_rfl) (fun _ _ _ h => h) hR0 rfl (fun _ hS => Yld.fieldAddr hS rfl 1 Try.underlying80 rfl rfl info3 (by decide)) ?_
 refine eA 5 rfl (by kernel_rfl) (fun _ _ _ h => h) hR0 rfl (fun _ hS => Yld.load1 hS rfl Try.underlying3 rfl rdQ) ?_
 intro aa hS
 refine dOne (i := 2) (by kernel_rfl) ?_
 refine dop rfl (Bcall hS rfl Try.call61 (rfSlots_ok (a := a) hB (hR.pk (r := refS _ _ _) pkQ)) (by decide) ?_); clear hS; intro aa ww vv hS hp
 clear hR hR0
 obtain ⟨rz, cz, rfl, hR⟩ := hp
 
 refine dnext (hR.sub exQ) ?_; intro hR0
 revert aa
 refine eA 3 rfl (by kernel_rfl) (fun _ _ _ h => h) hR0 rfl (fun _ hS => Yld.len hS rfl Try.underlying40) ?_
 refine eA 6 rfl (by kernel_rfl) (fun _ _ _ h => h) hR0 rfl (fun _ hS => Yld.eql hS rfl rfl) ?_
 refine qB (t := 35) false rfl (by exact decide_eq_false (by omega)) ?_
 intro aa hS
 refine wpAnyH_done (by kernel_rfl) ?_ _; clear hR0
 refine hK873 _ _ ?_
 refine condF hS rfl ?_
 refine wp_skip ?_
 refine hK872 _ _ ?_
 refine wp_seq_k ?_; intro K874 hK874
 refine wp_seq_k ?_; intro K875 hK875
 refine wp_region_lit ?_
 refine sA hS hR (Yld.loadAgg hS rfl Try.underlying80 rfl info80 rdsQ5 (by rfl)) (by decide) ?_; clear hS; intro aa hS
 revert aa
 refine qM hR ?_
 intro aa hS
 refine sB (Bcall hS rfl Try.call62 (rfRecord_ok (a := a) hB (hR.pk (r := refS _ _ _) pkQ)) (by decide) ?_); clear hS; intro aa ww vv hS hp
 clear hR
 obtain ⟨rfl, hR⟩ := hp
 rw [hr] at hS
 dsimp only [optV, Option.getD, Option.isSome] at hS
 revert aa
 refine qM hR ?_
 refine qX hR ?_
 refine qX hR ?_
 refine qB (t := 42) false rfl (by rfl) ?_
 refine qN hR ?_
 refine qN hR ?_
 intro aa hS
 refine wpList_nil ?_
 refine hK875 _ _ ?_
 refine wp_seq_k ?_; intro K876 hK876
 refine wp_region_lit ?_
 revert aa
 refine qM hR ?_
 refine qA hR rfl (fun _ hS => Yld.not hS rfl) ?_
 intro aa hS
 refine wpList_nil ?_
 refine hK876 _ _ ?_
 refine condT hS rfl ?_
 refine wp_seq_k ?_; intro K877 hK877
 have tail877 : ∀ (r56 : Option Addr) (c56 : Nat) (aa : Act) (ww : World), Has 75 aa [(1, .int .u32 a), (2, .int .i64 (s : Int)), (3, .pointer (some ⟨bb3, 0, none⟩)), (6, .pointer (some ⟨bb6, 0, none⟩))] → Sep (blk bb3 [.int .i64 (S : Int), .int .i64 (lim : Int), .slice q.r1 (T.O).length q.c1, .slice r56 (T.R ++ [(a, f)]).length c56, .slice q.r3 (cst T.A.free).length q.c3] 80 :: blk bb6 [.int .i64 0, .int .i64 0, .slice none 0 0, .slice none 0 0, .slice none 0 0] 80 :: sls q.r1 T.O.length q.c1 130 2 (T.O.flatMap eO) :: sls r56 (T.R ++ [(a, f)]).length c56 128 2 ((T.R ++ [(a, f)]).flatMap eO) :: sls q.r3 (cst T.A.free).length q.c3 3 1 ((cst T.A.free).flatMap e1) :: l) ww → K877 aa ww := by
  clear hS hR; intro r56 c56 aa ww hS hR
  refine hK877 _ _ ?_
  refine wp_region_lit ?_
  refine sB (BbuildSlice hS hR rfl (bls40_0_) (by decide) ?_); clear hS hR; intro aa ww bb58 hS hR
  replace hR := hR.pk (r := blk bb58 _ _) pkQ
  replace hR := Sep.toRecs (m := 0) (sz := 1) (enc := e1) (([] : List Int)) hR rfl (by intro _; rfl) rfl
  revert aa
  refine qA hR rfl (fun _ hS => Yld.fieldAddr hS rfl 4 Try.underlying80 rfl rfl info40 (by decide)) ?_
  refine qA hR rfl (fun _ hS => Yld.load1 hS rfl Try.underlying40 rfl rdQ) ?_
  refine qA hR rfl (fun _ hS => Yld.sliceLo hS rfl rfl Try.underlying40 info3 (by omega) (by omega)) ?_
  intro aa hS
  refine sB (BappendR (sz := 1) hS hR rfl rfl Try.underlying40 info3 rfl rfl (by rfl) pkQ (XC.part (r := q.r3) (lo := 1) pkQ (by intro _; rfl) (by rfl) (by omega)) (by intro _; rfl) (by show (_ + _) * 8 ≤ _; first | omega | (simp only [List.length_take, List.length_append, List.length_drop, List.length_cons, List.length_nil, List.length_map]; omega)) (by first | omega | (simp only [List.length_take, List.length_append, List.length_drop, List.length_cons, List.length_nil, List.length_map]; omega)) (by rw [List.length_append, List.length_take, List.length_drop]; first | (simp; done) | (simp; omega)) (by decide) ?_); clear hS hR; intro aa ww r62 c62 hS hR
  rw [show ([] : List Int) ++ ((cst T.A.free).drop 1).take ((cst T.A.free).length - Int.toNat 1) = cst T.A.take.free from by rw [hft, he]; simp [cst, List.take_of_length_le]] at hS hR
  refine sA hS hR (Yld.fieldAddr hS rfl 4 Try.underlying80 rfl rfl info40 (by decide)) (by decide) ?_; clear hS; intro aa hS
  refine sB (Bstore hS hR rfl rfl (by rfl) info40 (by rfl) pkQ (by rfl) (Nat.le_of_ble_eq_true rfl) ?_); clear hR; intro ww hR
  refine wpList_nil ?_
  refine hK874 _ _ ?_
  refine wp_seq_k ?_; intro K878 hK878
  refine wp_region_lit ?_
  refine sB (BbuildSlice hS hR rfl (bls77_0_) (by decide) ?_); clear hS hR; intro aa ww bb64 hS hR
  replace hR := hR.pk (r := blk bb64 _ _) pkQ
  replace hR := Sep.toRecs (m := 0) (sz := 2) (enc := eO) (([] : List (Int × Nat))) hR rfl (by intro _; rfl) rfl
  revert aa
  refine qA hR rfl (fun _ hS => Yld.fieldAddr hS rfl 2 Try.underlying80 rfl rfl info77 (by decide)) ?_
  refine qA hR rfl (fun _ hS => Yld.load1 hS rfl Try.underlying77 rfl rdQ) ?_
  intro aa hS
  refine sB (BappendR (sz := 2) hS hR rfl rfl Try.underlying77 info130 rfl rfl (by rfl) pkQ (XC.all pkQ) (by intro _; rfl) (by show (_ + _) * 16 ≤ _; first | omega | (simp only [List.length_take, List.length_append, List.length_drop, List.length_cons, List.length_nil, List.length_map]; omega)) (by first | omega | (simp only [List.length_take, List.length_append, List.length_drop, List.length_cons, List.length_nil, List.length_map]; omega)) (by first | rfl | (simp; done) | (simp; omega)) (by decide) ?_); clear hS hR; intro aa ww r67 c67 hS hR
  rw [List.nil_append] at hS hR
  revert aa
  refine qM hR ?_
  refine qM hR ?_
  refine qA hR rfl (fun _ hS => Yld.build hS rfl (bld130_0_1 _ _)) ?_
  intro aa hS
  refine sB (BbuildSlice hS hR rfl (bls77_1_0 _ _) (by decide) ?_); clear hS hR; intro aa ww bb71 hS hR
  replace hR := hR.pk (r := blk bb71 _ _) pkQ
  replace hR := Sep.toRecs (m := 1) (sz := 2) (enc := eO) ([(a, s)]) hR rfl (by intro _; rfl) rfl
  refine sB (BappendR (sz := 2) hS hR rfl rfl Try.underlying77 info130 rfl rfl (by rfl) pkQ (XC.all pkQ) (by intro _; rfl) (by show (_ + _) * 16 ≤ _; first | omega | (simp only [List.length_take, List.length_append, List.length_drop, List.length_cons, List.length_nil, List.length_map]; omega)) (by first | omega | (simp only [List.length_take, List.length_append, List.length_drop, List.length_cons, List.length_nil, List.length_map]; omega)) (by first | rfl | (simp; done) | (simp; omega)) (by decide) ?_); clear hS hR; intro aa ww r72 c72 hS hR
  refine sA hS hR (Yld.fieldAddr hS rfl 2 Try.underlying80 rfl rfl info77 (by decide)) (by decide) ?_; clear hS; intro aa hS
  refine sB (Bstore hS hR rfl rfl (by rfl) info77 (by rfl) pkQ (by rfl) (Nat.le_of_ble_eq_true rfl) ?_); clear hR; intro ww hR
  refine wpList_nil ?_
  refine hK878 _ _ ?_
  refine wp_seq_k ?_; intro K879 hK879
  refine wp_region_lit ?_
  refine sA hS hR (Yld.loadAgg hS rfl Try.underlying80 rfl info80 rdsQ5 (by rfl)) (by decide) ?_; clear hS; intro aa hS
  refine sB (Bstore hS hR rfl rfl (by rfl) info80 (by rfl) pkQ (by rfl) (Nat.le_of_ble_eq_true rfl) ?_); clear hR; intro ww hR
  revert aa
  refine qN hR ?_
  intro aa hS
  refine wpList_nil ?_
  refine hK879 _ _ ?_
  refine wp_ret ?_
  repeat first | with_reducible refine thenR ?_ | with_reducible refine blockR ?_ | with_reducible refine scopeR ?_
  refine retN (fn := Try.f36) (e := .ret) (.inl rfl) Try.results36 hS hR ⟨_, .cons (.agg rfl Try.underlying80 rfl info80 (Rds.cons (Rd.blk pkQ (by rfl)) (Rds.cons (Rd.blk pkQ (by rfl)) (Rds.cons (Rd.blk pkQ (by rfl)) (Rds.cons (Rd.blk pkQ (by rfl)) (Rds.cons (Rd.blk pkQ (by rfl)) (Rds.nil)))))) (by rfl)) (.cons (.tmp rfl) (.nil)), rfl, ?_⟩
  try dsimp only [lay, List.set] at hR
  replace hR := Sep.refI (t := rt) (O := T.O ++ [(a, s)]) (R := T.R ++ [(a, f)]) (A := T.A.take) rfl rfl rfl (hR.sub exQ)
  exact ⟨_, rfl, (hR.sub exQ)⟩
 replace hR := (hR.pk (r := refS _ _ _) pkQ).refE
 refine drawnL 13 (by kernel_rfl) hR ?_; clear hR; intro ww hR; have hR0 := hR
 refine lA 1 rfl (by kernel_rfl) (by kernel_rfl) (by kernel_rfl) (by kernel_rfl) (fun _ _ _ h => h) hS hR0 (Yld.fieldAddr hS rfl 3 Try.underlying80 rfl rfl info78 (by decide)) (by decide) ?_; clear hS; intro aa hS
 refine lA 2 rfl (by kernel_rfl) (by kernel_rfl) (by kernel_rfl) (by kernel_rfl) (fun _ _ _ h => h) hS hR0 (Yld.load1 hS rfl Try.underlying78 rfl rdQ) (by decide) ?_; clear hS; intro aa hS
 refine lA 4 rfl (by kernel_rfl) (by kernel_rfl) (by kernel_rfl) (by kernel_rfl) (fun _ _ _ h => h) hS hR0 (Yld.move hS rfl) (by decide) ?_; clear hS; intro aa hS
 refine lA 5 rfl (by kernel_rfl) (by kernel_rfl) (by kernel_rfl) (by kernel_rfl) (fun _ _ _ h => h) hS hR0 (Yld.fieldAddr hS rfl 4 Try.underlying80 rfl rfl info40 (by decide)) (by decide) ?_; clear hS; intro aa hS
 refine lA 6 rfl (by kernel_rfl) (by kernel_rfl) (by kernel_rfl) (by kernel_rfl) (fun _ _ _ h => h) hS hR0 (Yld.load1 hS rfl Try.underlying40 rfl rdQ) (by decide) ?_; clear hS; intro aa hS
 refine lA 7 rfl (by kernel_rfl) (by kernel_rfl) (by kernel_rfl) (by kernel_rfl) (fun _ _ _ h => h) hS hR0 ((ilQ 1 (0) Try.underlying40 info3)) (by decide) ?_; clear hS; intro aa hS
 refine lA 8 rfl (by kernel_rfl) (by kernel_rfl) (by kernel_rfl) (by kernel_rfl) (fun _ _ _ h => h) hS hR0 (Yld.load1 hS rfl Try.underlying3 rfl (Rd.rec0 (k := 0) (xs := cst T.A.free) (v := .int .i64 (f : Int)) pkQ (by intro _; rfl) (by omega) (by simp [he, cst, e1]))) (by decide) ?_; clear hS; intro aa hS
 refine lA 9 rfl (by kernel_rfl) (by kernel_rfl) (by kernel_rfl) (by kernel_rfl) (fun _ _ _ h => h) hS hR0 (Yld.build hS rfl (bld128_0_1 _ _)) (by decide) ?_; clear hS; intro aa hS
 refine lTwo (i := 0) (j := 10) (by kernel_rfl) ?_ ?_
 ·
  refine dop rfl (BbuildSlice hS hR rfl (bls78_0_) (by decide) ?_); clear hS hR hR0; intro aa ww bb45 hS hR
  refine lnext (hR.sub exQ) ?_; intro hR0
  replace hR := hR.pk (r := blk bb45 _ _) pkQ
  replace hR := Sep.toRecs (m := 0) (sz := 2) (enc := eO) (([] : List (Int × Nat))) hR rfl (by intro _; rfl) rfl
  refine lTwo (i := 3) (j := 10) (by kernel_rfl) ?_ ?_
  ·
   refine dop rfl (BappendR (sz := 2) hS hR rfl rfl Try.underlying78 info128 rfl rfl (by rfl) pkQ (XC.all pkQ) (by intro _; rfl) (by show (_ + _) * 16 ≤ _; first | omega | (simp only [List.length_take, List.length_append, List.length_drop, List.length_cons, List.length_nil, List.length_map]; omega)) (by first | omega | (simp only [List.length_take, List.length_append, List.length_drop, List.length_cons, List.length_nil, List.length_map]; omega)) (by first | rfl | (simp; done) | (simp; omega)) (by decide) ?_); clear hS hR hR0; intro aa ww r48 c48 hS hR
   refine lnext (hR.sub exQ) ?_; intro hR0
   rw [List.nil_append] at hS hR
   refine lOne (i := 10) (by kernel_rfl) ?_
   refine dop rfl (BbuildSlice hS hR rfl (bls78_1_0 _ _) (by decide) ?_); clear hS hR hR0; intro aa ww bb55 hS hR
   refine lnext (hR.sub exQ) ?_; intro hR0
   replace hR := hR.pk (r := blk bb55 _ _) pkQ
   replace hR := Sep.toRecs (m := 1) (sz := 2) (enc := eO) ([(a, f)]) hR rfl (by intro _; rfl) rfl
   refine lOne (i := 11) (by kernel_rfl) ?_
   refine dop rfl (BappendR (sz := 2) hS hR rfl rfl Try.underlying78 info128 rfl rfl (by rfl) pkQ (XC.all pkQ) (by intro _; rfl) (by show (_ + _) * 16 ≤ _; first | omega | (simp only [List.length_take, List.length_append, List.length_drop, List.length_cons, List.length_nil, List.length_map]; omega)) (by first | omega | (simp only [List.length_take, List.length_append, List.length_drop, List.length_cons, List.length_nil, List.length_map]; omega)) (by first | rfl | (simp; done) | (simp; omega)) (by decide) ?_); clear hS hR hR0; intro aa ww r56 c56 hS hR
   refine lnext (hR.sub exQ) ?_; intro hR0
   refine lA 12 rfl (by kernel_rfl) (by kernel_rfl) (by kernel_rfl) (by kernel_rfl) (fun _ _ _ h => h) hS hR0 (Yld.fieldAddr hS rfl 3 Try.underlying80 rfl rfl info78 (by decide)) (by decide) ?_; clear hS; intro aa hS
   refine lOne (i := 13) (by kernel_rfl) ?_
   refine dop rfl (Bstore hS hR rfl rfl (by rfl) info78 (by rfl) pkQ (by rfl) (Nat.le_of_ble_eq_true rfl) ?_); clear hR hR0; intro ww hR
   refine lend ?_
   refine wpAnyL_done (by kernel_rfl) ?_ _; try clear hR0
   try dsimp only [lay, List.set] at hR
   exact tail877 r56 c56 _ _ (hS.le (Le.cons rfl (Le.cons rfl (Le.cons rfl (Le.cons rfl (Le.nil _)))))) (hR.sub exQ)
  ·
   refine dop rfl (BbuildSlice hS hR rfl (bls78_1_0 _ _) (by decide) ?_); clear hS hR hR0; intro aa ww bb55 hS hR
   refine lnext (hR.sub exQ) ?_; intro hR0
   replace hR := hR.pk (r := blk bb55 _ _) pkQ
   replace hR := Sep.toRecs (m := 1) (sz := 2) (enc := eO) ([(a, f)]) hR rfl (by intro _; rfl) rfl
   refine lOne (i := 3) (by kernel_rfl) ?_
   refine dop rfl (BappendR (sz := 2) hS hR rfl rfl Try.underlying78 info128 rfl rfl (by rfl) pkQ (XC.all pkQ) (by intro _; rfl) (by show (_ + _) * 16 ≤ _; first | omega | (simp only [List.length_take, List.length_append, List.length_drop, List.length_cons, List.length_nil, List.length_map]; omega)) (by first | omega | (simp only [List.length_take, List.length_append, List.length_drop, List.length_cons, List.length_nil, List.length_map]; omega)) (by first | rfl | (simp; done) | (simp; omega)) (by decide) ?_); clear hS hR hR0; intro aa ww r48 c48 hS hR
   refine lnext (hR.sub exQ) ?_; intro hR0
   rw [List.nil_append] at hS hR
   refine lOne (i := 11) (by kernel_rfl) ?_
   refine dop rfl (BappendR (sz := 2) hS hR rfl rfl Try.underlying78 info128 rfl rfl (by rfl) pkQ (XC.all pkQ) (by intro _; rfl) (by show (_ + _) * 16 ≤ _; first | omega | (simp only [List.length_take, List.length_append, List.length_drop, List.length_cons, List.length_nil, List.length_map]; omega)) (by first | omega | (simp only [List.length_take, List.length_append, List.length_drop, List.length_cons, List.length_nil, List.length_map]; omega)) (by first | rfl | (simp; done) | (simp; omega)) (by decide) ?_); clear hS hR hR0; intro aa ww r56 c56 hS hR
   refine lnext (hR.sub exQ) ?_; intro hR0
   refine lA 12 rfl (by kernel_rfl) (by kernel_rfl) (by kernel_rfl) (by kernel_rfl) (fun _ _ _ h => h) hS hR0 (Yld.fieldAddr hS rfl 3 Try.underlying80 rfl rfl info78 (by decide)) (by decide) ?_; clear hS; intro aa hS
   refine lOne (i := 13) (by kernel_rfl) ?_
   refine dop rfl (Bstore hS hR rfl rfl (by rfl) info78 (by rfl) pkQ (by rfl) (Nat.le_of_ble_eq_true rfl) ?_); clear hR hR0; intro ww hR
   refine lend ?_
   refine wpAnyL_done (by kernel_rfl) ?_ _; try clear hR0
   try dsimp only [lay, List.set] at hR
   exact tail877 r56 c56 _ _ (hS.le (Le.cons rfl (Le.cons rfl (Le.cons rfl (Le.cons rfl (Le.nil _)))))) (hR.sub exQ)
 ·
  refine dop rfl (BbuildSlice hS hR rfl (bls78_1_0 _ _) (by decide) ?_); clear hS hR hR0; intro aa ww bb55 hS hR
  refine lnext (hR.sub exQ) ?_; intro hR0
  replace hR := hR.pk (r := blk bb55 _ _) pkQ
  replace hR := Sep.toRecs (m := 1) (sz := 2) (enc := eO) ([(a, f)]) hR rfl (by intro _; rfl) rfl
  refine lOne (i := 0) (by kernel_rfl) ?_
  refine dop rfl (BbuildSlice hS hR rfl (bls78_0_) (by decide) ?_); clear hS hR hR0; intro aa ww bb45 hS hR
  refine lnext (hR.sub exQ) ?_; intro hR0
  replace hR := hR.pk (r := blk bb45 _ _) pkQ
  replace hR := Sep.toRecs (m := 0) (sz := 2) (enc := eO) (([] : List (Int × Nat))) hR rfl (by intro _; rfl) rfl
  refine lOne (i := 3) (by kernel_rfl) ?_
  refine dop rfl (BappendR (sz := 2) hS hR rfl rfl Try.underlying78 info128 rfl rfl (by rfl) pkQ (XC.all pkQ) (by intro _; rfl) (by show (_ + _) * 16 ≤ _; first | omega | (simp only [List.length_take, List.length_append, List.length_drop, List.length_cons, List.length_nil, List.length_map]; omega)) (by first | omega | (simp only [List.length_take, List.length_append, List.length_drop, List.length_cons, List.length_nil, List.length_map]; omega)) (by first | rfl | (simp; done) | (simp; omega)) (by decide) ?_); clear hS hR hR0; intro aa ww r48 c48 hS hR
  refine lnext (hR.sub exQ) ?_; intro hR0
  rw [List.nil_append] at hS hR
  refine lOne (i := 11) (by kernel_rfl) ?_
  refine dop rfl (BappendR (sz := 2) hS hR rfl rfl Try.underlying78 info128 rfl rfl (by rfl) pkQ (XC.all pkQ) (by intro _; rfl) (by show (_ + _) * 16 ≤ _; first | omega | (simp only [List.length_take, List.length_append, List.length_drop, List.length_cons, List.length_nil, List.length_map]; omega)) (by first | omega | (simp only [List.length_take, List.length_append, List.length_drop, List.length_cons, List.length_nil, List.length_map]; omega)) (by first | rfl | (simp; done) | (simp; omega)) (by decide) ?_); clear hS hR hR0; intro aa ww r56 c56 hS hR
  refine lnext (hR.sub exQ) ?_; intro hR0
  refine lA 12 rfl (by kernel_rfl) (by kernel_rfl) (by kernel_rfl) (by kernel_rfl) (fun _ _ _ h => h) hS hR0 (Yld.fieldAddr hS rfl 3 Try.underlying80 rfl rfl info78 (by decide)) (by decide) ?_; clear hS; intro aa hS
  refine lOne (i := 13) (by kernel_rfl) ?_
  refine dop rfl (Bstore hS hR rfl rfl (by rfl) info78 (by rfl) pkQ (by rfl) (Nat.le_of_ble_eq_true rfl) ?_); clear hR hR0; intro ww hR
  refine lend ?_
  refine wpAnyL_done (by kernel_rfl) ?_ _; try clear hR0
  try dsimp only [lay, List.set] at hR
  exact tail877 r56 c56 _ _ (hS.le (Le.cons rfl (Le.cons rfl (Le.cons rfl (Le.cons rfl (Le.nil _)))))) (hR.sub exQ)
theorem rfOpen_ok {S lim : Nat} {q : RQ} {T : So} {l : List HP} {w : World} {a x : Int} (hF : SF S lim T) (h2 : S ≤ 4096) (h4 : lim ≤ 64) (hR : Sep (refS rt q T :: l) w) : CallR Try.prog 36 [refV S lim q T, .int .u32 a, .int .i64 x] w (fun v w' => ∃ q, v = .tuple [refV S lim q (opnN S lim T a x), .int .i64 (opnE S lim T a x)].toArray ∧ Sep (refS rt q (opnN S lim T a x) :: l) w') := by
 by_cases hx : 0 ≤ x ∧ x < S
 ·
  obtain ⟨s, rfl⟩ : ∃ s : Nat, x = s := ⟨x.toNat, by omega⟩
  have hs : s < S := by omega
  cases hq : ofO T.O (s : Int) with
  | some o =>
   rw [(opn_there hx hq).1, (opn_there hx hq).2]
   exact rfOpen_there hs hq hF h2 h4 hR
  | none =>
   by_cases hl : lim ≤ (slO T.O a).length
   ·
    rw [(opn_full hx hq hl).1, (opn_full hx hq hl).2]
    exact rfOpen_full hs hq hl hF h2 h4 hR
   ·
    rw [(opn_ok hs hq (by omega)).1, (opn_ok hs hq (by omega)).2]
    cases hr : rcR T.R a with
    | some r =>
     rw [addO_old hr]
     exact rfOpen_old hs hq (by omega) hr hF h2 h4 hR
    | none =>
     have hro := hF.oroom hs hq
     have hrl := hF.rleo
     obtain ⟨r, fs, he⟩ := hF.hasFree (by omega)
     rw [addO_new hr he]
     exact rfOpen_new hs hq (by omega) hr he hF h2 h4 hR
 ·
  rw [(opn_bad hx).1, (opn_bad hx).2]
  exact rfOpen_bad hx hF h2 h4 hR
end Go.Proofs.Ythjfclljjcpikaa.Sx
