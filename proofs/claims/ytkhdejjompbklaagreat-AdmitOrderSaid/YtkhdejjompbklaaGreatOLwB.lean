/-
 
-/
import Derived.Test.YtkhdejjompbklaaGreatOLwA
namespace Go.Proofs.YtkhdejjompbklaaGreat.Sx
open Go
set_option maxRecDepth 20000
set_option linter.unusedVariables false
set_option linter.unusedSimpArgs false
theorem info80 : Tryz.prog.info? 80 = some Tryz.t80 := by kernel_rfl
theorem bld43_0_1 (x0 : Int) (x1 : Int) (w : World) : (Instr.build 43 [(0, .int .u8 x0), (1, .int .i64 x1)].toArray).run Tryz.prog w = .ok (.agg [.int .u8 x0, .int .i64 x1, .int .i64 0, .bool false].toArray) w := by kernel_rfl
theorem bld43_0_3 (x0 : Int) (x3 : Bool) (w : World) : (Instr.build 43 [(0, .int .u8 x0), (3, .bool x3)].toArray).run Tryz.prog w = .ok (.agg [.int .u8 x0, .int .i64 0, .int .i64 0, .bool x3].toArray) w := by kernel_rfl
theorem bld80_0_1_2 (x0 : Int) (x1 : Int) (x2_0 : Int) (x2_1 : Int) (x2_2 : Int) (x2_3 : Bool) (w : World) : (Instr.build 80 [(0, .int .i64 x0), (1, .int .u32 x1), (2, .agg [.int .u8 x2_0, .int .i64 x2_1, .int .i64 x2_2, .bool x2_3].toArray)].toArray).run Tryz.prog w = .ok (.agg [.int .i64 x0, .int .u32 x1, .int .u8 x2_0, .int .i64 x2_1, .int .i64 x2_2, .bool x2_3].toArray) w := by kernel_rfl
theorem bls81_7_0_1_2_3_4_5_6 (x0_0 : Int) (x0_1 : Int) (x0_2 : Int) (x0_3 : Int) (x0_4 : Int) (x0_5 : Bool) (x1_0 : Int) (x1_1 : Int) (x1_2 : Int) (x1_3 : Int) (x1_4 : Int) (x1_5 : Bool) (x2_0 : Int) (x2_1 : Int) (x2_2 : Int) (x2_3 : Int) (x2_4 : Int) (x2_5 : Bool) (x3_0 : Int) (x3_1 : Int) (x3_2 : Int) (x3_3 : Int) (x3_4 : Int) (x3_5 : Bool) (x4_0 : Int) (x4_1 : Int) (x4_2 : Int) (x4_3 : Int) (x4_4 : Int) (x4_5 : Bool) (x5_0 : Int) (x5_1 : Int) (x5_2 : Int) (x5_3 : Int) (x5_4 : Int) (x5_5 : Bool) (x6_0 : Int) (x6_1 : Int) (x6_2 : Int) (x6_3 : Int) (x6_4 : Int) (x6_5 : Bool) (w : World) : (Instr.buildSlice 81 7 [(0, .agg [.int .i64 x0_0, .int .u32 x0_1, .int .u8 x0_2, .int .i64 x0_3, .int .i64 x0_4, .bool x0_5].toArray), (1, .agg [.int .i64 x1_0, .int .u32 x1_1, .int .u8 x1_2, .int .i64 x1_3, .int .i64 x1_4, .bool x1_5].toArray), (2, .agg [.int .i64 x2_0, .int .u32 x2_1, .int .u8 x2_2, .int .i64 x2_3, .int .i64 x2_4, .bool x2_5].toArray), (3, .agg [.int .i64 x3_0, .int .u32 x3_1, .int .u8 x3_2, .int .i64 x3_3, .int .i64 x3_4, .bool x3_5].toArray), (4, .agg [.int .i64 x4_0, .int .u32 x4_1, .int .u8 x4_2, .int .i64 x4_3, .int .i64 x4_4, .bool x4_5].toArray), (5, .agg [.int .i64 x5_0, .int .u32 x5_1, .int .u8 x5_2, .int .i64 x5_3, .int .i64 x5_4, .bool x5_5].toArray), (6, .agg [.int .i64 x6_0, .int .u32 x6_1, .int .u8 x6_2, .int .i64 x6_3, .int .i64 x6_4, .bool x6_5].toArray)].toArray).run Tryz.prog w = .ok (.slice (some ⟨w.heap.size, 0, none⟩) 7 7) (w.alloc (.cells ([.int .i64 x0_0, .int .u32 x0_1, .int .u8 x0_2, .int .i64 x0_3, .int .i64 x0_4, .bool x0_5, .int .i64 x1_0, .int .u32 x1_1, .int .u8 x1_2, .int .i64 x1_3, .int .i64 x1_4, .bool x1_5, .int .i64 x2_0, .int .u32 x2_1, .int .u8 x2_2, .int .i64 x2_3, .int .i64 x2_4, .bool x2_5, .int .i64 x3_0, .int .u32 x3_1, .int .u8 x3_2, .int .i64 x3_3, .int .i64 x3_4, .bool x3_5, .int .i64 x4_0, .int .u32 x4_1, .int .u8 x4_2, .int .i64 x4_3, .int .i64 x4_4, .bool x4_5, .int .i64 x5_0, .int .u32 x5_1, .int .u8 x5_2, .int .i64 x5_3, .int .i64 x5_4, .bool x5_5, .int .i64 x6_0, .int .u32 x6_1, .int .u8 x6_2, .int .i64 x6_3, .int .i64 x6_4, .bool x6_5] : List Value).toArray 80)) := by kernel_rfl
theorem neq43 (o1 o2 : Operand) (x_0 : Int) (x_1 : Int) (x_2 : Int) (x_3 : Bool) (y_0 : Int) (y_1 : Int) (y_2 : Int) (y_3 : Bool) (w : World) : (do eqGuard .neq 43 o1 o2 (.agg [.int .u8 x_0, .int .i64 x_1, .int .i64 x_2, .bool x_3].toArray) (.agg [.int .u8 y_0, .int .i64 y_1, .int .i64 y_2, .bool y_3].toArray); binOp .neq 43 (.agg [.int .u8 x_0, .int .i64 x_1, .int .i64 x_2, .bool x_3].toArray) (.agg [.int .u8 y_0, .int .i64 y_1, .int .i64 y_2, .bool y_3].toArray) : Sem Value).run Tryz.prog w = .ok (.bool (!decide (x_0 = y_0 ∧ x_1 = y_1 ∧ x_2 = y_2 ∧ x_3 = y_3))) w := by
 by_cases h0 : x_0 = y_0
 ·
  skip
  by_cases h1 : x_1 = y_1
  ·
   skip
   by_cases h2 : x_2 = y_2
   ·
    skip
    by_cases h3 : x_3 = y_3
    ·
     simp [go_sem, h0, h1, h2, h3]
    ·
     simp [go_sem, h0, h1, h2, h3]
   ·
    simp [go_sem, h0, h1, h2]
  ·
   simp [go_sem, h0, h1]
 ·
  simp [go_sem, h0]
theorem take_nextA {α : Type} {xs ys : List α} {k : Nat} (h : xs.take k = ys.take k) (h1 : k < xs.length) (h2 : k < ys.length) (e : xs[k] = ys[k]) : xs.take (k + 1) = ys.take (k + 1) := by
 rw [List.take_succ_eq_append_getElem h1, List.take_succ_eq_append_getElem h2, h, e]
theorem eqI_ok {q1 q2 : Option Addr} {c1 c2 : Nat} {xs ys : List Int} {l : List HP} {w : World} (hx : xs.length ≤ 9000) (hy : ys.length ≤ 9000) (hR : Sep (sls q1 xs.length c1 3 1 (xs.flatMap e1) :: sls q2 ys.length c2 3 1 (ys.flatMap e1) :: l) w) : CallR Tryz.prog 14 [.slice q1 xs.length c1, .slice q2 ys.length c2] w (fun v w' => v = .bool (decide (xs = ys)) ∧ Sep (sls q1 xs.length c1 3 1 (xs.flatMap e1) :: sls q2 ys.length c2 3 1 (ys.flatMap e1) :: l) w') := by
 refine enter Tryz.func14 rfl Tryz.ntmps14 (Nat.le_of_ble_eq_true rfl) ?_; intro aa hS
 refine wp_seq_k ?_; intro K925 hK925
 refine wp_region_lit ?_
 revert aa
 refine qN hR ?_
 intro aa hS
 refine wpList_nil ?_
 refine hK925 _ _ ?_
 refine wp_seq_k ?_; intro K926 hK926
 refine wp_seq_k ?_; intro K927 hK927
 refine wp_region_lit ?_
 revert aa
 refine qM hR ?_
 refine qA hR rfl (fun _ hS => Yld.len hS rfl Tryz.underlying36) ?_
 refine qM hR ?_
 refine qA hR rfl (fun _ hS => Yld.len hS rfl Tryz.underlying36) ?_
 refine qA hR rfl (fun _ hS => Yld.neq hS rfl rfl) ?_
 intro aa hS
 refine wpList_nil ?_
 refine hK927 _ _ ?_
 refine hS.splitB (t := 10) rfl ?_ ?_ <;> clear hS
 ·
  intro hg hS
  refine condT hS rfl ?_
  refine wp_seq_k ?_; intro K928 hK928
  refine wp_region_lit ?_
  revert aa
  refine qN hR ?_
  intro aa hS
  refine wpList_nil ?_
  refine hK928 _ _ ?_
  refine wp_ret ?_
  repeat first | with_reducible refine thenR ?_ | with_reducible refine blockR ?_ | with_reducible refine scopeR ?_
  refine ret1 (fn := Tryz.f14) (e := .ret) (.inl rfl) Tryz.results14 hS hR ⟨_, (.tmp rfl), ?_⟩
  refine ⟨?_, (hR.sub exQ)⟩
  first
   | exact dec_no (fun e => by subst e; omega)
   | exact dec_no (fun e => by subst e; exact hne rfl)
   | exact dec_yes (by have h := hI.2; rw [List.take_of_length_le (by omega), List.take_of_length_le (by omega)] at h; exact h)
 ·
  intro hg hS
  have hlen : xs.length = ys.length := by omega
  refine condF hS rfl ?_
  refine wp_skip ?_
  refine hK926 _ _ ?_
  refine wp_seq_k ?_; intro K929 hK929
  refine wp_seq_k ?_; intro K930 hK930
  refine wp_region_lit ?_
  revert aa
  refine qM hR ?_
  refine qA hR rfl (fun _ hS => Yld.len hS rfl Tryz.underlying36) ?_
  refine qM hR ?_
  intro aa hS
  refine wpList_nil ?_
  refine hK930 _ _ ?_
  refine wp_block ?_
  refine loopI (X := Nat) [(0, _), (1, _), (12, _)] (fun x => [(13, .int .i64 (x : Int))]) (fun x => []) _ (fun x => x ≤ xs.length ∧ xs.take x = ys.take x) (fun x => xs.length - x) 0 ⟨Nat.zero_le _, rfl⟩ (hS.le (Le.cons rfl (Le.nilapp (Le.cons rfl (Le.cons rfl (Le.cons rfl (Le.nil _))))))) hR ?_
  clear hS hR; rintro k aa ww hI hS hR; dsimp only [List.cons_append, List.nil_append] at hI hS hR
  refine wp_seq_k ?_; intro K932 hK932
  refine wp_region_lit ?_
  refine sA hS hR (Yld.lss hS rfl rfl) (by decide) ?_; clear hS; intro aa hS
  refine wpList_nil ?_
  refine hK932 _ _ ?_
  refine wp_seq_k ?_; intro K933 hK933
  refine hS.splitB (t := 14) rfl ?_ ?_ <;> clear hS
  ·
   intro hg hS
   have hk1 : k < xs.length := by omega
   have hk2 : k < ys.length := by omega
   obtain ⟨x0, hx0⟩ : ∃ y : Int, xs[k] = y := ⟨_, rfl⟩
   obtain ⟨y0, hy0⟩ : ∃ y : Int, ys[k] = y := ⟨_, rfl⟩
   refine condT hS rfl ?_
   refine wp_skip ?_
   refine hK933 _ _ ?_
   refine wp_seq_k ?_; intro K934 hK934
   refine wp_block ?_
   refine wp_seq_k ?_; intro K935 hK935
   refine wp_region_lit ?_
   revert aa
   refine qM hR ?_
   refine qN hR ?_
   intro aa hS
   refine wpList_nil ?_
   refine hK935 _ _ ?_
   refine wp_seq_k ?_; intro K936 hK936
   refine drawn krQ hR Ex.refl ?_; clear hR; intro ww hR hR0
   revert aa
   refine eA 0 rfl krQ (fun _ _ _ h => h) hR0 rfl (fun _ hS => Yld.move hS rfl) ?_
   refine eA 1 rfl krQ (fun _ _ _ h => h) hR0 rfl (fun _ hS => Yld.move hS rfl) ?_
   refine eA 2 rfl krQ (fun _ _ _ h => h) hR0 rfl (fun _ hS => ilQ 1 (k) Tryz.underlying36 info3) ?_
   refine eA 3 rfl krQ (fun _ _ _ h => h) hR0 rfl (fun _ hS => Yld.load1 hS rfl Tryz.underlying3 rfl (Rd.rec0 (k := k) (xs := xs) (v := (e1 x0).headD (.bool false)) pkQ (by intro _; rfl) hk1 (by rw [hx0]; rfl))) ?_
   refine eA 4 rfl krQ (fun _ _ _ h => h) hR0 rfl (fun _ hS => Yld.move hS rfl) ?_
   refine eA 5 rfl krQ (fun _ _ _ h => h) hR0 rfl (fun _ hS => Yld.move hS rfl) ?_
   refine eA 6 rfl krQ (fun _ _ _ h => h) hR0 rfl (fun _ hS => ilQ 1 (k) Tryz.underlying36 info3) ?_
   refine eA 7 rfl krQ (fun _ _ _ h => h) hR0 rfl (fun _ hS => Yld.load1 hS rfl Tryz.underlying3 rfl (Rd.rec0 (k := k) (xs := ys) (v := (e1 y0).headD (.bool false)) pkQ (by intro _; rfl) hk2 (by rw [hy0]; rfl))) ?_
   refine eA 8 rfl krQ (fun _ _ _ h => h) hR0 rfl (fun _ hS => Yld.neq hS rfl rfl) ?_
   intro aa hS
   refine wpAnyH_done krQ ?_ _; clear hR0
   refine hK936 _ _ ?_
   refine hS.splitB (t := 24) rfl ?_ ?_ <;> clear hS
   ·
    intro hg hS
    have hne : ¬ xs[k] = ys[k] := fun e => by
     rw [hx0, hy0] at e
     exact hg e
    refine condT hS rfl ?_
    refine wp_seq_k ?_; intro K937 hK937
    refine wp_region_lit ?_
    revert aa
    refine qN hR ?_
    intro aa hS
    refine wpList_nil ?_
    refine hK937 _ _ ?_
    refine wp_ret ?_
    repeat first | with_reducible refine thenR ?_ | with_reducible refine blockR ?_ | with_reducible refine scopeR ?_
    refine ret1 (fn := Tryz.f14) (e := .ret) (.inl rfl) Tryz.results14 hS hR ⟨_, (.tmp rfl), ?_⟩
    refine ⟨?_, (hR.sub exQ)⟩
    first
     | exact dec_no (fun e => by subst e; omega)
     | exact dec_no (fun e => by subst e; exact hne rfl)
     | exact dec_yes (by have h := hI.2; rw [List.take_of_length_le (by omega), List.take_of_length_le (by omega)] at h; exact h)
   ·
    intro hg hS
    have heq : xs[k] = ys[k] := by
     rw [hx0, hy0]
     first | exact hg | exact Decidable.not_not.1 hg | omega
    refine condF hS rfl ?_
    refine wp_skip ?_
    refine hK934 _ _ ?_
    refine wp_region_lit ?_
    refine sA hS hR adQ (by decide) ?_; clear hS; intro aa hS
    revert aa
    refine qM hR ?_
    intro aa hS
    refine wpList_nil ?_
    refine ⟨k + 1, ?_, ?_, hS.le (Le.cons rfl (Le.nilapp (Le.cons rfl (Le.cons rfl (Le.cons rfl (Le.nil _)))))), hR.sub (Ex.nilapp exQ)⟩
    ·
     exact ⟨by omega, take_nextA hI.2 hk1 hk2 heq⟩
    ·
     omega
  ·
   intro hg hS
   refine condF hS rfl ?_
   refine wp_exit ?_
   refine hK929 _ _ ?_
   refine wp_seq_k ?_; intro K938 hK938
   refine wp_region_lit ?_
   revert aa
   refine qN hR ?_
   intro aa hS
   refine wpList_nil ?_
   refine hK938 _ _ ?_
   refine wp_ret ?_
   repeat first | with_reducible refine thenR ?_ | with_reducible refine blockR ?_ | with_reducible refine scopeR ?_
   refine ret1 (fn := Tryz.f14) (e := .ret) (.inl rfl) Tryz.results14 hS hR ⟨_, (.tmp rfl), ?_⟩
   refine ⟨?_, (hR.sub exQ)⟩
   first
    | exact dec_no (fun e => by subst e; omega)
    | exact dec_no (fun e => by subst e; exact hne rfl)
    | exact dec_yes (by have h := hI.2; rw [List.take_of_length_le (by omega), List.take_of_length_le (by omega)] at h; exact h)
def w0 : Dk := D0 2
def w1 : Dk := (tryD 2 1 10 2 w0 5 9).2
def w2 : Dk := (tryD 2 1 10 2 w1 5 9).2
def w3 : Dk := (tryD 2 1 10 2 w2 5 9).2
def w4 : Dk := (tryD 2 1 10 2 w3 5 7).2
def v4 : Dk := seeN' 2 w4 1
def w5 : Dk := (tryD 2 1 10 2 v4 6 8).2
def x5 : Dk := assN 2 w5 0
def v5 : Dk := assN 2 x5 1
def w6 : Dk := (tryD 2 1 10 2 v5 7 7).2
def v6 : Dk := cloN w6 1
def w7 : Dk := (tryD 2 1 10 2 v6 7 9).2
def o1 : Dk := (tryD 2 1 10 1 w0 5 9).2
def o2 : Dk := (tryD 2 1 10 1 o1 5 9).2
def o3 : Dk := (tryD 2 1 10 1 o2 15 9).2
theorem rr2 : RR 1 10 2 := by decide
theorem rr1 : RR 1 10 1 := by decide
theorem W0 : DKF 2 2 1 10 2 w0 := (MD.new (by decide) (by decide) rr2 (by decide)).f
theorem W1 : DKF 2 2 1 10 2 w1 := W0.try (by decide)
theorem W2 : DKF 2 2 1 10 2 w2 := W1.try (by decide)
theorem W3 : DKF 2 2 1 10 2 w3 := W2.try (by decide)
theorem W4 : DKF 2 2 1 10 2 w4 := W3.try (by decide)
theorem V4 : DKF 2 2 1 10 2 v4 := W4.seeN
theorem W5 : DKF 2 2 1 10 2 w5 := V4.try (by decide)
theorem X5 : DKF 2 2 1 10 2 x5 := W5.assN
theorem V5 : DKF 2 2 1 10 2 v5 := X5.assN
theorem W6 : DKF 2 2 1 10 2 w6 := V5.try (by decide)
theorem V6 : DKF 2 2 1 10 2 v6 := W6.cloN
theorem W7 : DKF 2 2 1 10 2 w7 := V6.try (by decide)
theorem O0 : DKF 2 2 1 10 1 w0 := (MD.new (by decide) (by decide) rr1 (by decide)).f
theorem O1 : DKF 2 2 1 10 1 o1 := O0.try (by decide)
theorem O2 : DKF 2 2 1 10 1 o2 := O1.try (by decide)
theorem ar0 : (tryD 2 1 10 2 w0 5 9).1 = (22, 0, 0, false, 0) := by decide +kernel
theorem ar1 : (tryD 2 1 10 2 w1 5 9).1 = (22, 1, 0, false, 0) := by decide +kernel
theorem ar2 : (tryD 2 1 10 2 w2 5 9).1 = (27, 0, 0, false, 0) := by decide +kernel
theorem ar3 : (tryD 2 1 10 2 w3 5 7).1 = (22, 0, 0, true, 0) := by decide +kernel
theorem ar4 : (tryD 2 1 10 2 v4 6 8).1 = (22, 0, 0, true, 0) := by decide +kernel
theorem ar5 : (tryD 2 1 10 2 v5 7 7).1 = (29, 0, 0, false, 0) := by decide +kernel
theorem ar6 : (tryD 2 1 10 2 v6 7 9).1 = (22, 1, 0, false, 0) := by decide +kernel
theorem as0 : (tryD 2 1 10 1 w0 5 9).1 = (22, 0, 0, false, 0) := by decide +kernel
theorem as1 : (tryD 2 1 10 1 o1 5 9).1 = (28, 0, 0, false, 0) := by decide +kernel
theorem as2 : (tryD 2 1 10 1 o2 15 9).1 = (22, 1, 0, false, 0) := by decide +kernel
theorem aq1 : (slO w4.T.O 9).length = 1 ∧ cst (slO w4.T.O 9) = [1] ∧ clsE 2 w4.T 1 = 0 := by decide +kernel
theorem aq2 : clsE 2 w5.T 0 = 0 ∧ clsE 2 x5.T 1 = 0 ∧ clsE 2 w6.T 1 = 0 := by decide +kernel
theorem aq3 : bkD 1 10 2 w7.T w7.B 9 w7.now / 10 = 1 := by decide +kernel
theorem anow : (w0.now ≤ 5 ∧ w1.now ≤ 5 ∧ w2.now ≤ 5 ∧ w3.now ≤ 5 ∧ v4.now ≤ 6 ∧ v5.now ≤ 7 ∧ v6.now ≤ 7) ∧ (o1.now ≤ 5 ∧ o2.now ≤ 15) ∧ 6 < w7.now := by decide +kernel
theorem aun : (w0.un ≤ 9 ∧ w1.un ≤ 9 ∧ w2.un ≤ 9 ∧ w3.un ≤ 9 ∧ w4.un ≤ 9 ∧ v4.un ≤ 9 ∧ v5.un ≤ 9 ∧ v6.un ≤ 9) ∧ (o1.un ≤ 9 ∧ o2.un ≤ 9) := by decide +kernel
set_option maxHeartbeats 4000000 in
theorem awake34_ok {l : List HP} {w : World} (hR : Sep l w) : CallR Tryz.prog 7 ([] : List Value) w (fun v w' => v = .bool true ∧ Sep l w') := by
 refine enter Tryz.func7 rfl Tryz.ntmps7 (Nat.le_of_ble_eq_true rfl) ?_; intro aa hS
 refine wp_seq_k ?_; intro K939 hK939
 refine wp_region_lit ?_
 revert aa
 refine qN hR ?_
 intro aa hS
 refine wpList_nil ?_
 refine hK939 _ _ ?_
 refine wp_seq_k ?_; intro K940 hK940
 refine wp_region_lit ?_
 refine sB (Bcall hS rfl Tryz.call19 (rules_ok hR) (by decide) ?_); clear hS; intro aa ww vv hS hp
 clear hR
 obtain ⟨rfl, hR⟩ := hp
 refine sB (Bcall hS rfl Tryz.call34 (adNew_ok (S := 2) (lim := 2) (t := 1) (p := 10) (u := 2) (by decide) (by decide) (by decide) (by decide) rr2 hR) (by decide) ?_); clear hS; intro aa ww vv hS hp
 clear hR
 obtain ⟨b, rfl, hR⟩ := hp
 change Sep (deskA dd b 2 2 (1, 10, 2) w0 :: _) _ at hR
 revert aa
 refine qM hR ?_
 refine qX hR ?_
 refine qX hR ?_
 refine qN hR ?_
 refine qN hR ?_
 intro aa hS
 refine wpList_nil ?_
 refine hK940 _ _ ?_
 refine wp_seq_k ?_; intro K941 hK941
 refine wp_seq_k ?_; intro K942 hK942
 refine wp_region_lit ?_
 revert aa
 refine qM hR ?_
 refine qA hR rfl (fun _ hS => Yld.neq hS rfl rfl) ?_
 refine qB (t := 21) false rfl (by decide) ?_
 refine qM hR ?_
 refine qMg hR ?_
 refine qAg hR rfl rfl rfl (fun _ hS => Yld.eqlNil hS rfl rfl Tryz.underlying29) ?_
 refine qB (t := 24) false rfl (by rfl) ?_
 refine qA hR rfl (fun _ hS => Yld.pickF hS rfl rfl) ?_
 intro aa hS
 refine wpList_nil ?_
 refine hK942 _ _ ?_
 refine condF hS rfl ?_
 refine wp_skip ?_
 refine hK941 _ _ ?_
 refine wp_seq_k ?_; intro K943 hK943
 refine wp_seq_k ?_; intro K944 hK944
 refine wp_region_lit ?_
 revert aa
 refine qA hR rfl (fun _ hS => Yld.build hS rfl (bld43_0 _)) ?_
 refine qA hR rfl (fun _ hS => Yld.build hS rfl (bld80_0_1_2 _ _ _ _ _ _)) ?_
 refine qA hR rfl (fun _ hS => Yld.build hS rfl (bld43_0_1 _ _)) ?_
 refine qA hR rfl (fun _ hS => Yld.build hS rfl (bld80_0_1_2 _ _ _ _ _ _)) ?_
 refine qA hR rfl (fun _ hS => Yld.build hS rfl (bld43_0 _)) ?_
 refine qA hR rfl (fun _ hS => Yld.build hS rfl (bld80_0_1_2 _ _ _ _ _ _)) ?_
 refine qA hR rfl (fun _ hS => Yld.build hS rfl (bld43_0_3 _ _)) ?_
 refine qA hR rfl (fun _ hS => Yld.build hS rfl (bld80_0_1_2 _ _ _ _ _ _)) ?_
 refine qA hR rfl (fun _ hS => Yld.build hS rfl (bld43_0_3 _ _)) ?_
 refine qA hR rfl (fun _ hS => Yld.build hS rfl (bld80_0_1_2 _ _ _ _ _ _)) ?_
 refine qA hR rfl (fun _ hS => Yld.build hS rfl (bld43_0 _)) ?_
 refine qA hR rfl (fun _ hS => Yld.build hS rfl (bld80_0_1_2 _ _ _ _ _ _)) ?_
 refine qA hR rfl (fun _ hS => Yld.build hS rfl (bld43_0_1 _ _)) ?_
 refine qA hR rfl (fun _ hS => Yld.build hS rfl (bld80_0_1_2 _ _ _ _ _ _)) ?_
 intro aa hS
 refine sB (BbuildSlice hS hR rfl (bls81_7_0_1_2_3_4_5_6 _ _ _ _ _ _ _ _ _ _ _ _ _ _ _ _ _ _ _ _ _ _ _ _ _ _ _ _ _ _ _ _ _ _ _ _ _ _ _ _ _ _) (by decide) ?_); clear hS hR; intro aa ww bb40 hS hR
 revert aa
 refine qA hR rfl (fun _ hS => Yld.len hS rfl Tryz.underlying81) ?_
 refine qM hR ?_
 intro aa hS
 refine wpList_nil ?_
 refine hK944 _ _ ?_
 refine wp_block ?_
 refine loopU 7 ?_
 replace hS := hS.le (T := [(0, _), (1, _), (2, _), (40, _), (41, _), (42, _)]) (Le.cons rfl (Le.cons rfl (Le.cons rfl (Le.cons rfl (Le.cons rfl (Le.cons rfl (Le.nil _)))))))
 replace hS := hS.say (t := 42) (.int .i64 0) rfl (by rfl)
 refine wp_seq_k ?_; intro K945 hK945
 refine wp_region_lit ?_
 revert aa
 refine qA hR rfl (fun _ hS => Yld.lss hS rfl rfl) ?_
 refine qB (t := 43) true rfl (by decide) ?_
 intro aa hS
 refine wpList_nil ?_
 refine hK945 _ _ ?_
 refine wp_seq_k ?_; intro K946 hK946
 refine condT hS rfl ?_
 refine wp_skip ?_
 refine hK946 _ _ ?_
 refine wp_seq_k ?_; intro K947 hK947
 refine wp_block ?_
 refine wp_seq_k ?_; intro K948 hK948
 refine wp_region_lit ?_
 revert aa
 refine qM hR ?_
 refine qA hR rfl (fun _ hS => by first | exact Yld.indexL (sz := 6) _ hS rfl rfl Tryz.underlying81 info80 pkQ rfl rfl (by omega) | exact Yld.indexB (sz := 6) _ hS rfl rfl Tryz.underlying81 info80 rfl rfl (by omega) | exact Yld.indexSlice hS rfl rfl Tryz.underlying81 info80 (by omega) (by omega)) ?_
 intro aa hS
 refine sA hS hR (Yld.loadAgg hS rfl Tryz.underlying80 rfl info80 rdsQ6 (by rfl)) (by decide) ?_; clear hS; intro aa hS
 refine sB (Balloc hS hR info80 (by rfl) (by rfl) (by decide) ?_); clear hS hR; intro aa ww bb4 hS hR
 revert aa
 refine qN hR ?_
 intro aa hS
 refine sB (Bstore hS hR rfl rfl (by rfl) info80 (by rfl) pkQ (by rfl) (Nat.le_of_ble_eq_true rfl) ?_); clear hR; intro ww hR
 refine wpList_nil ?_
 refine hK948 _ _ ?_
 refine wp_seq_k ?_; intro K949 hK949
 refine wp_seq_k ?_; intro K950 hK950
 refine wp_region_lit ?_
 revert aa
 refine qM hR ?_
 intro aa hS
 refine wpList_nil ?_
 refine hK950 _ _ ?_
 refine wp_block ?_
 refine wp_seq_k ?_; intro K951 hK951
 refine wp_region_lit ?_
 revert aa
 refine qA hR rfl (fun _ hS => Yld.eql hS rfl rfl) ?_
 refine qB (t := 49) false rfl (by decide) ?_
 refine qN hR ?_
 intro aa hS
 refine wpList_nil ?_
 refine hK951 _ _ ?_
 refine condF hS rfl ?_
 refine wp_seq_k ?_; intro K952 hK952
 refine wp_region_lit ?_
 revert aa
 refine qA hR rfl (fun _ hS => Yld.eql hS rfl rfl) ?_
 refine qB (t := 66) false rfl (by decide) ?_
 refine qN hR ?_
 intro aa hS
 refine wpList_nil ?_
 refine hK952 _ _ ?_
 refine condF hS rfl ?_
 refine wp_seq_k ?_; intro K953 hK953
 refine wp_region_lit ?_
 revert aa
 refine qA hR rfl (fun _ hS => Yld.eql hS rfl rfl) ?_
 refine qB (t := 74) false rfl (by decide) ?_
 refine qN hR ?_
 intro aa hS
 refine wpList_nil ?_
 refine hK953 _ _ ?_
 refine condF hS rfl ?_
 refine wp_skip ?_
 refine hK949 _ _ ?_
 refine wp_seq_k ?_; intro K954 hK954
 refine wp_region_lit ?_
 revert aa
 refine qM hR ?_
 refine qA hR rfl (fun _ hS => Yld.fieldAddr hS rfl 0 Tryz.underlying80 rfl rfl info3 (by decide)) ?_
 refine qA hR rfl (fun _ hS => Yld.load1 hS rfl Tryz.underlying3 rfl rdQ) ?_
 refine qA hR rfl (fun _ hS => Yld.fieldAddr hS rfl 1 Tryz.underlying80 rfl rfl info25 (by decide)) ?_
 refine qA hR rfl (fun _ hS => Yld.load1 hS rfl Tryz.underlying25 rfl rdQ) ?_
 intro aa hS
 refine sB (Bcall hS rfl Tryz.call20 (adTry_ok (D := w0) (n := 5) (a := 9) W0 (by decide) ⟨anow.1.1, by decide⟩ (Int.le_trans aun.1.1 (by decide)) (hR.pk (r := deskA _ b _ _ _ _) pkQ)) (by decide) ?_); clear hS; intro aa ww vv hS hp
 clear hR
 obtain ⟨rfl, hR⟩ := hp
 rw [ar0] at hS
 dsimp only [tryV] at hS
 change Sep (deskA dd b 2 2 (1, 10, 2) w1 :: _) _ at hR
 revert aa
 refine qM hR ?_
 refine qX hR ?_
 refine qX hR ?_
 intro aa hS
 refine sB (Balloc hS hR info43 (by rfl) (by rfl) (by decide) ?_); clear hS hR; intro aa ww bb5 hS hR
 refine sB (Bstore hS hR rfl rfl (by rfl) info43 (by rfl) pkQ (by rfl) (Nat.le_of_ble_eq_true rfl) ?_); clear hR; intro ww hR
 revert aa
 refine qN hR ?_
 intro aa hS
 refine wpList_nil ?_
 refine hK954 _ _ ?_
 refine wp_seq_k ?_; intro K955 hK955
 refine wp_region_lit ?_
 refine sA hS hR (Yld.loadAgg hS rfl Tryz.underlying43 rfl info43 rdsQ4 (by rfl)) (by decide) ?_; clear hS; intro aa hS
 refine sA hS hR (Yld.fieldAddr hS rfl 2 Tryz.underlying80 rfl rfl info43 (by decide)) (by decide) ?_; clear hS; intro aa hS
 refine sA hS hR (Yld.loadAgg hS rfl Tryz.underlying43 rfl info43 rdsQ4 (by rfl)) (by decide) ?_; clear hS; intro aa hS
 revert aa
 refine qA hR rfl (fun _ hS => Yld.binRun hS rfl rfl (neq43 _ _ _ _ _ _ _ _ _ _)) ?_
 refine qB (t := 90) false rfl (by decide) ?_
 refine qM hR ?_
 refine qMg hR ?_
 refine qAg hR rfl rfl rfl (fun _ hS => Yld.neq hS rfl rfl) ?_
 refine qB (t := 93) false rfl (by decide) ?_
 refine qA hR rfl (fun _ hS => Yld.pickF hS rfl rfl) ?_
 intro aa hS
 refine wpList_nil ?_
 refine hK955 _ _ ?_
 refine condF hS rfl ?_
 refine wp_skip ?_
 refine hK947 _ _ ?_
 refine wp_region_lit ?_
 refine sA hS hR adQ (by decide) ?_; clear hS; intro aa hS
 revert aa
 refine qM hR ?_
 intro aa hS
 refine wpList_nil ?_
 refine roundU ?_
 replace hS := hS.le (T := [(0, _), (1, _), (2, _), (3, _), (4, _), (5, _), (6, _), (40, _), (41, _), (42, _), (43, _), (44, _), (45, _), (46, _), (47, _), (48, _), (49, _), (65, _), (66, _), (73, _), (74, _), (78, _), (79, _), (80, _), (81, _), (82, _), (83, _), (84, _), (85, _), (86, _), (87, _), (88, _), (89, _), (90, _), (91, _), (92, _), (93, _), (94, _), (95, _)]) (Le.cons rfl (Le.cons rfl (Le.cons rfl (Le.cons rfl (Le.cons rfl (Le.cons rfl (Le.cons rfl (Le.cons rfl (Le.cons rfl (Le.cons rfl (Le.cons rfl (Le.cons rfl (Le.cons rfl (Le.cons rfl (Le.cons rfl (Le.cons rfl (Le.cons rfl (Le.cons rfl (Le.cons rfl (Le.cons rfl (Le.cons rfl (Le.cons rfl (Le.cons rfl (Le.cons rfl (Le.cons rfl (Le.cons rfl (Le.cons rfl (Le.cons rfl (Le.cons rfl (Le.cons rfl (Le.cons rfl (Le.cons rfl (Le.cons rfl (Le.cons rfl (Le.cons rfl (Le.cons rfl (Le.cons rfl (Le.cons rfl (Le.cons rfl (Le.nil _))))))))))))))))))))))))))))))))))))))))
 replace hS := hS.say (t := 42) (.int .i64 1) rfl (by rfl)
 refine wp_seq_k ?_; intro K956 hK956
 refine wp_region_lit ?_
 revert aa
 refine qA hR rfl (fun _ hS => Yld.lss hS rfl rfl) ?_
 refine qB (t := 43) true rfl (by decide) ?_
 intro aa hS
 refine wpList_nil ?_
 refine hK956 _ _ ?_
 refine wp_seq_k ?_; intro K957 hK957
 refine condT hS rfl ?_
 refine wp_skip ?_
 refine hK957 _ _ ?_
 refine wp_seq_k ?_; intro K958 hK958
 refine wp_block ?_
 refine wp_seq_k ?_; intro K959 hK959
 refine wp_region_lit ?_
 revert aa
 refine qM hR ?_
 refine qA hR rfl (fun _ hS => by first | exact Yld.indexL (sz := 6) _ hS rfl rfl Tryz.underlying81 info80 pkQ rfl rfl (by omega) | exact Yld.indexB (sz := 6) _ hS rfl rfl Tryz.underlying81 info80 rfl rfl (by omega) | exact Yld.indexSlice hS rfl rfl Tryz.underlying81 info80 (by omega) (by omega)) ?_
 intro aa hS
 refine sA hS hR (Yld.loadAgg hS rfl Tryz.underlying80 rfl info80 rdsQ6 (by rfl)) (by decide) ?_; clear hS; intro aa hS
 refine sB (Balloc hS hR info80 (by rfl) (by rfl) (by decide) ?_); clear hS hR; intro aa ww bb4 hS hR
 revert aa
 refine qN hR ?_
 intro aa hS
 refine sB (Bstore hS hR rfl rfl (by rfl) info80 (by rfl) pkQ (by rfl) (Nat.le_of_ble_eq_true rfl) ?_); clear hR; intro ww hR
 refine wpList_nil ?_
 refine hK959 _ _ ?_
 refine wp_seq_k ?_; intro K960 hK960
 refine wp_seq_k ?_; intro K961 hK961
 refine wp_region_lit ?_
 revert aa
 refine qM hR ?_
 intro aa hS
 refine wpList_nil ?_
 refine hK961 _ _ ?_
 refine wp_block ?_
 refine wp_seq_k ?_; intro K962 hK962
 refine wp_region_lit ?_
 revert aa
 refine qA hR rfl (fun _ hS => Yld.eql hS rfl rfl) ?_
 refine qB (t := 49) false rfl (by decide) ?_
 refine qN hR ?_
 intro aa hS
 refine wpList_nil ?_
 refine hK962 _ _ ?_
 refine condF hS rfl ?_
 refine wp_seq_k ?_; intro K963 hK963
 refine wp_region_lit ?_
 revert aa
 refine qA hR rfl (fun _ hS => Yld.eql hS rfl rfl) ?_
 refine qB (t := 66) false rfl (by decide) ?_
 refine qN hR ?_
 intro aa hS
 refine wpList_nil ?_
 refine hK963 _ _ ?_
 refine condF hS rfl ?_
 refine wp_seq_k ?_; intro K964 hK964
 refine wp_region_lit ?_
 revert aa
 refine qA hR rfl (fun _ hS => Yld.eql hS rfl rfl) ?_
 refine qB (t := 74) false rfl (by decide) ?_
 refine qN hR ?_
 intro aa hS
 refine wpList_nil ?_
 refine hK964 _ _ ?_
 refine condF hS rfl ?_
 refine wp_skip ?_
 refine hK960 _ _ ?_
 refine wp_seq_k ?_; intro K965 hK965
 refine wp_region_lit ?_
 revert aa
 refine qM hR ?_
 refine qA hR rfl (fun _ hS => Yld.fieldAddr hS rfl 0 Tryz.underlying80 rfl rfl info3 (by decide)) ?_
 refine qA hR rfl (fun _ hS => Yld.load1 hS rfl Tryz.underlying3 rfl rdQ) ?_
 refine qA hR rfl (fun _ hS => Yld.fieldAddr hS rfl 1 Tryz.underlying80 rfl rfl info25 (by decide)) ?_
 refine qA hR rfl (fun _ hS => Yld.load1 hS rfl Tryz.underlying25 rfl rdQ) ?_
 intro aa hS
 refine sB (Bcall hS rfl Tryz.call20 (adTry_ok (D := w1) (n := 5) (a := 9) W1 (by decide) ⟨anow.1.2.1, by decide⟩ (Int.le_trans aun.1.2.1 (by decide)) (hR.pk (r := deskA _ b _ _ _ _) pkQ)) (by decide) ?_); clear hS; intro aa ww vv hS hp
 clear hR
 obtain ⟨rfl, hR⟩ := hp
 rw [ar1] at hS
 dsimp only [tryV] at hS
 change Sep (deskA dd b 2 2 (1, 10, 2) w2 :: _) _ at hR
 revert aa
 refine qM hR ?_
 refine qX hR ?_
 refine qX hR ?_
 intro aa hS
 refine sB (Balloc hS hR info43 (by rfl) (by rfl) (by decide) ?_); clear hS hR; intro aa ww bb5 hS hR
 refine sB (Bstore hS hR rfl rfl (by rfl) info43 (by rfl) pkQ (by rfl) (Nat.le_of_ble_eq_true rfl) ?_); clear hR; intro ww hR
 revert aa
 refine qN hR ?_
 intro aa hS
 refine wpList_nil ?_
 refine hK965 _ _ ?_
 refine wp_seq_k ?_; intro K966 hK966
 refine wp_region_lit ?_
 refine sA hS hR (Yld.loadAgg hS rfl Tryz.underlying43 rfl info43 rdsQ4 (by rfl)) (by decide) ?_; clear hS; intro aa hS
 refine sA hS hR (Yld.fieldAddr hS rfl 2 Tryz.underlying80 rfl rfl info43 (by decide)) (by decide) ?_; clear hS; intro aa hS
 refine sA hS hR (Yld.loadAgg hS rfl Tryz.underlying43 rfl info43 rdsQ4 (by rfl)) (by decide) ?_; clear hS; intro aa hS
 revert aa
 refine qA hR rfl (fun _ hS => Yld.binRun hS rfl rfl (neq43 _ _ _ _ _ _ _ _ _ _)) ?_
 refine qB (t := 90) false rfl (by decide) ?_
 refine qM hR ?_
 refine qMg hR ?_
 refine qAg hR rfl rfl rfl (fun _ hS => Yld.neq hS rfl rfl) ?_
 refine qB (t := 93) false rfl (by decide) ?_
 refine qA hR rfl (fun _ hS => Yld.pickF hS rfl rfl) ?_
 intro aa hS
 refine wpList_nil ?_
 refine hK966 _ _ ?_
 refine condF hS rfl ?_
 refine wp_skip ?_
 refine hK958 _ _ ?_
 refine wp_region_lit ?_
 refine sA hS hR adQ (by decide) ?_; clear hS; intro aa hS
 revert aa
 refine qM hR ?_
 intro aa hS
 refine wpList_nil ?_
 refine roundU ?_
 replace hS := hS.le (T := [(0, _), (1, _), (2, _), (3, _), (4, _), (5, _), (6, _), (40, _), (41, _), (42, _), (43, _), (44, _), (45, _), (46, _), (47, _), (48, _), (49, _), (65, _), (66, _), (73, _), (74, _), (78, _), (79, _), (80, _), (81, _), (82, _), (83, _), (84, _), (85, _), (86, _), (87, _), (88, _), (89, _), (90, _), (91, _), (92, _), (93, _), (94, _), (95, _)]) (Le.cons rfl (Le.cons rfl (Le.cons rfl (Le.cons rfl (Le.cons rfl (Le.cons rfl (Le.cons rfl (Le.cons rfl (Le.cons rfl (Le.cons rfl (Le.cons rfl (Le.cons rfl (Le.cons rfl (Le.cons rfl (Le.cons rfl (Le.cons rfl (Le.cons rfl (Le.cons rfl (Le.cons rfl (Le.cons rfl (Le.cons rfl (Le.cons rfl (Le.cons rfl (Le.cons rfl (Le.cons rfl (Le.cons rfl (Le.cons rfl (Le.cons rfl (Le.cons rfl (Le.cons rfl (Le.cons rfl (Le.cons rfl (Le.cons rfl (Le.cons rfl (Le.cons rfl (Le.cons rfl (Le.cons rfl (Le.cons rfl (Le.cons rfl (Le.nil _))))))))))))))))))))))))))))))))))))))))
 replace hS := hS.say (t := 42) (.int .i64 2) rfl (by rfl)
 refine wp_seq_k ?_; intro K967 hK967
 refine wp_region_lit ?_
 revert aa
 refine qA hR rfl (fun _ hS => Yld.lss hS rfl rfl) ?_
 refine qB (t := 43) true rfl (by decide) ?_
 intro aa hS
 refine wpList_nil ?_
 refine hK967 _ _ ?_
 refine wp_seq_k ?_; intro K968 hK968
 refine condT hS rfl ?_
 refine wp_skip ?_
 refine hK968 _ _ ?_
 refine wp_seq_k ?_; intro K969 hK969
 refine wp_block ?_
 refine wp_seq_k ?_; intro K970 hK970
 refine wp_region_lit ?_
 revert aa
 refine qM hR ?_
 refine qA hR rfl (fun _ hS => by first | exact Yld.indexL (sz := 6) _ hS rfl rfl Tryz.underlying81 info80 pkQ rfl rfl (by omega) | exact Yld.indexB (sz := 6) _ hS rfl rfl Tryz.underlying81 info80 rfl rfl (by omega) | exact Yld.indexSlice hS rfl rfl Tryz.underlying81 info80 (by omega) (by omega)) ?_
 intro aa hS
 refine sA hS hR (Yld.loadAgg hS rfl Tryz.underlying80 rfl info80 rdsQ6 (by rfl)) (by decide) ?_; clear hS; intro aa hS
 refine sB (Balloc hS hR info80 (by rfl) (by rfl) (by decide) ?_); clear hS hR; intro aa ww bb4 hS hR
 revert aa
 refine qN hR ?_
 intro aa hS
 refine sB (Bstore hS hR rfl rfl (by rfl) info80 (by rfl) pkQ (by rfl) (Nat.le_of_ble_eq_true rfl) ?_); clear hR; intro ww hR
 refine wpList_nil ?_
 refine hK970 _ _ ?_
 refine wp_seq_k ?_; intro K971 hK971
 refine wp_seq_k ?_; intro K972 hK972
 refine wp_region_lit ?_
 revert aa
 refine qM hR ?_
 intro aa hS
 refine wpList_nil ?_
 refine hK972 _ _ ?_
 refine wp_block ?_
 refine wp_seq_k ?_; intro K973 hK973
 refine wp_region_lit ?_
 revert aa
 refine qA hR rfl (fun _ hS => Yld.eql hS rfl rfl) ?_
 refine qB (t := 49) false rfl (by decide) ?_
 refine qN hR ?_
 intro aa hS
 refine wpList_nil ?_
 refine hK973 _ _ ?_
 refine condF hS rfl ?_
 refine wp_seq_k ?_; intro K974 hK974
 refine wp_region_lit ?_
 revert aa
 refine qA hR rfl (fun _ hS => Yld.eql hS rfl rfl) ?_
 refine qB (t := 66) false rfl (by decide) ?_
 refine qN hR ?_
 intro aa hS
 refine wpList_nil ?_
 refine hK974 _ _ ?_
 refine condF hS rfl ?_
 refine wp_seq_k ?_; intro K975 hK975
 refine wp_region_lit ?_
 revert aa
 refine qA hR rfl (fun _ hS => Yld.eql hS rfl rfl) ?_
 refine qB (t := 74) false rfl (by decide) ?_
 refine qN hR ?_
 intro aa hS
 refine wpList_nil ?_
 refine hK975 _ _ ?_
 refine condF hS rfl ?_
 refine wp_skip ?_
 refine hK971 _ _ ?_
 refine wp_seq_k ?_; intro K976 hK976
 refine wp_region_lit ?_
 revert aa
 refine qM hR ?_
 refine qA hR rfl (fun _ hS => Yld.fieldAddr hS rfl 0 Tryz.underlying80 rfl rfl info3 (by decide)) ?_
 refine qA hR rfl (fun _ hS => Yld.load1 hS rfl Tryz.underlying3 rfl rdQ) ?_
 refine qA hR rfl (fun _ hS => Yld.fieldAddr hS rfl 1 Tryz.underlying80 rfl rfl info25 (by decide)) ?_
 refine qA hR rfl (fun _ hS => Yld.load1 hS rfl Tryz.underlying25 rfl rdQ) ?_
 intro aa hS
 refine sB (Bcall hS rfl Tryz.call20 (adTry_ok (D := w2) (n := 5) (a := 9) W2 (by decide) ⟨anow.1.2.2.1, by decide⟩ (Int.le_trans aun.1.2.2.1 (by decide)) (hR.pk (r := deskA _ b _ _ _ _) pkQ)) (by decide) ?_); clear hS; intro aa ww vv hS hp
 clear hR
 obtain ⟨rfl, hR⟩ := hp
 rw [ar2] at hS
 dsimp only [tryV] at hS
 change Sep (deskA dd b 2 2 (1, 10, 2) w3 :: _) _ at hR
 revert aa
 refine qM hR ?_
 refine qX hR ?_
 refine qX hR ?_
 intro aa hS
 refine sB (Balloc hS hR info43 (by rfl) (by rfl) (by decide) ?_); clear hS hR; intro aa ww bb5 hS hR
 refine sB (Bstore hS hR rfl rfl (by rfl) info43 (by rfl) pkQ (by rfl) (Nat.le_of_ble_eq_true rfl) ?_); clear hR; intro ww hR
 revert aa
 refine qN hR ?_
 intro aa hS
 refine wpList_nil ?_
 refine hK976 _ _ ?_
 refine wp_seq_k ?_; intro K977 hK977
 refine wp_region_lit ?_
 refine sA hS hR (Yld.loadAgg hS rfl Tryz.underlying43 rfl info43 rdsQ4 (by rfl)) (by decide) ?_; clear hS; intro aa hS
 refine sA hS hR (Yld.fieldAddr hS rfl 2 Tryz.underlying80 rfl rfl info43 (by decide)) (by decide) ?_; clear hS; intro aa hS
 refine sA hS hR (Yld.loadAgg hS rfl Tryz.underlying43 rfl info43 rdsQ4 (by rfl)) (by decide) ?_; clear hS; intro aa hS
 revert aa
 refine qA hR rfl (fun _ hS => Yld.binRun hS rfl rfl (neq43 _ _ _ _ _ _ _ _ _ _)) ?_
 refine qB (t := 90) false rfl (by decide) ?_
 refine qM hR ?_
 refine qMg hR ?_
 refine qAg hR rfl rfl rfl (fun _ hS => Yld.neq hS rfl rfl) ?_
 refine qB (t := 93) false rfl (by decide) ?_
 refine qA hR rfl (fun _ hS => Yld.pickF hS rfl rfl) ?_
 intro aa hS
 refine wpList_nil ?_
 refine hK977 _ _ ?_
 refine condF hS rfl ?_
 refine wp_skip ?_
 refine hK969 _ _ ?_
 refine wp_region_lit ?_
 refine sA hS hR adQ (by decide) ?_; clear hS; intro aa hS
 revert aa
 refine qM hR ?_
 intro aa hS
 refine wpList_nil ?_
 refine roundU ?_
 replace hS := hS.le (T := [(0, _), (1, _), (2, _), (3, _), (4, _), (5, _), (6, _), (40, _), (41, _), (42, _), (43, _), (44, _), (45, _), (46, _), (47, _), (48, _), (49, _), (65, _), (66, _), (73, _), (74, _), (78, _), (79, _), (80, _), (81, _), (82, _), (83, _), (84, _), (85, _), (86, _), (87, _), (88, _), (89, _), (90, _), (91, _), (92, _), (93, _), (94, _), (95, _)]) (Le.cons rfl (Le.cons rfl (Le.cons rfl (Le.cons rfl (Le.cons rfl (Le.cons rfl (Le.cons rfl (Le.cons rfl (Le.cons rfl (Le.cons rfl (Le.cons rfl (Le.cons rfl (Le.cons rfl (Le.cons rfl (Le.cons rfl (Le.cons rfl (Le.cons rfl (Le.cons rfl (Le.cons rfl (Le.cons rfl (Le.cons rfl (Le.cons rfl (Le.cons rfl (Le.cons rfl (Le.cons rfl (Le.cons rfl (Le.cons rfl (Le.cons rfl (Le.cons rfl (Le.cons rfl (Le.cons rfl (Le.cons rfl (Le.cons rfl (Le.cons rfl (Le.cons rfl (Le.cons rfl (Le.cons rfl (Le.cons rfl (Le.cons rfl (Le.nil _))))))))))))))))))))))))))))))))))))))))
 replace hS := hS.say (t := 42) (.int .i64 3) rfl (by rfl)
 refine wp_seq_k ?_; intro K978 hK978
 refine wp_region_lit ?_
 revert aa
 refine qA hR rfl (fun _ hS => Yld.lss hS rfl rfl) ?_
 refine qB (t := 43) true rfl (by decide) ?_
 intro aa hS
 refine wpList_nil ?_
 refine hK978 _ _ ?_
 refine wp_seq_k ?_; intro K979 hK979
 refine condT hS rfl ?_
 refine wp_skip ?_
 refine hK979 _ _ ?_
 refine wp_seq_k ?_; intro K980 hK980
 refine wp_block ?_
 refine wp_seq_k ?_; intro K981 hK981
 refine wp_region_lit ?_
 revert aa
 refine qM hR ?_
 refine qA hR rfl (fun _ hS => by first | exact Yld.indexL (sz := 6) _ hS rfl rfl Tryz.underlying81 info80 pkQ rfl rfl (by omega) | exact Yld.indexB (sz := 6) _ hS rfl rfl Tryz.underlying81 info80 rfl rfl (by omega) | exact Yld.indexSlice hS rfl rfl Tryz.underlying81 info80 (by omega) (by omega)) ?_
 intro aa hS
 refine sA hS hR (Yld.loadAgg hS rfl Tryz.underlying80 rfl info80 rdsQ6 (by rfl)) (by decide) ?_; clear hS; intro aa hS
 refine sB (Balloc hS hR info80 (by rfl) (by rfl) (by decide) ?_); clear hS hR; intro aa ww bb4 hS hR
 revert aa
 refine qN hR ?_
 intro aa hS
 refine sB (Bstore hS hR rfl rfl (by rfl) info80 (by rfl) pkQ (by rfl) (Nat.le_of_ble_eq_true rfl) ?_); clear hR; intro ww hR
 refine wpList_nil ?_
 refine hK981 _ _ ?_
 refine wp_seq_k ?_; intro K982 hK982
 refine wp_seq_k ?_; intro K983 hK983
 refine wp_region_lit ?_
 revert aa
 refine qM hR ?_
 intro aa hS
 refine wpList_nil ?_
 refine hK983 _ _ ?_
 refine wp_block ?_
 refine wp_seq_k ?_; intro K984 hK984
 refine wp_region_lit ?_
 revert aa
 refine qA hR rfl (fun _ hS => Yld.eql hS rfl rfl) ?_
 refine qB (t := 49) false rfl (by decide) ?_
 refine qN hR ?_
 intro aa hS
 refine wpList_nil ?_
 refine hK984 _ _ ?_
 refine condF hS rfl ?_
 refine wp_seq_k ?_; intro K985 hK985
 refine wp_region_lit ?_
 revert aa
 refine qA hR rfl (fun _ hS => Yld.eql hS rfl rfl) ?_
 refine qB (t := 66) false rfl (by decide) ?_
 refine qN hR ?_
 intro aa hS
 refine wpList_nil ?_
 refine hK985 _ _ ?_
 refine condF hS rfl ?_
 refine wp_seq_k ?_; intro K986 hK986
 refine wp_region_lit ?_
 revert aa
 refine qA hR rfl (fun _ hS => Yld.eql hS rfl rfl) ?_
 refine qB (t := 74) false rfl (by decide) ?_
 refine qN hR ?_
 intro aa hS
 refine wpList_nil ?_
 refine hK986 _ _ ?_
 refine condF hS rfl ?_
 refine wp_skip ?_
 refine hK982 _ _ ?_
 refine wp_seq_k ?_; intro K987 hK987
 refine wp_region_lit ?_
 revert aa
 refine qM hR ?_
 refine qA hR rfl (fun _ hS => Yld.fieldAddr hS rfl 0 Tryz.underlying80 rfl rfl info3 (by decide)) ?_
 refine qA hR rfl (fun _ hS => Yld.load1 hS rfl Tryz.underlying3 rfl rdQ) ?_
 refine qA hR rfl (fun _ hS => Yld.fieldAddr hS rfl 1 Tryz.underlying80 rfl rfl info25 (by decide)) ?_
 refine qA hR rfl (fun _ hS => Yld.load1 hS rfl Tryz.underlying25 rfl rdQ) ?_
 intro aa hS
 refine sB (Bcall hS rfl Tryz.call20 (adTry_ok (D := w3) (n := 5) (a := 7) W3 (by decide) ⟨anow.1.2.2.2.1, by decide⟩ (Int.le_trans aun.1.2.2.2.1 (by decide)) (hR.pk (r := deskA _ b _ _ _ _) pkQ)) (by decide) ?_); clear hS; intro aa ww vv hS hp
 clear hR
 obtain ⟨rfl, hR⟩ := hp
 rw [ar3] at hS
 dsimp only [tryV] at hS
 change Sep (deskA dd b 2 2 (1, 10, 2) w4 :: _) _ at hR
 revert aa
 refine qM hR ?_
 refine qX hR ?_
 refine qX hR ?_
 intro aa hS
 refine sB (Balloc hS hR info43 (by rfl) (by rfl) (by decide) ?_); clear hS hR; intro aa ww bb5 hS hR
 refine sB (Bstore hS hR rfl rfl (by rfl) info43 (by rfl) pkQ (by rfl) (Nat.le_of_ble_eq_true rfl) ?_); clear hR; intro ww hR
 revert aa
 refine qN hR ?_
 intro aa hS
 refine wpList_nil ?_
 refine hK987 _ _ ?_
 refine wp_seq_k ?_; intro K988 hK988
 refine wp_region_lit ?_
 refine sA hS hR (Yld.loadAgg hS rfl Tryz.underlying43 rfl info43 rdsQ4 (by rfl)) (by decide) ?_; clear hS; intro aa hS
 refine sA hS hR (Yld.fieldAddr hS rfl 2 Tryz.underlying80 rfl rfl info43 (by decide)) (by decide) ?_; clear hS; intro aa hS
 refine sA hS hR (Yld.loadAgg hS rfl Tryz.underlying43 rfl info43 rdsQ4 (by rfl)) (by decide) ?_; clear hS; intro aa hS
 revert aa
 refine qA hR rfl (fun _ hS => Yld.binRun hS rfl rfl (neq43 _ _ _ _ _ _ _ _ _ _)) ?_
 refine qB (t := 90) false rfl (by decide) ?_
 refine qM hR ?_
 refine qMg hR ?_
 refine qAg hR rfl rfl rfl (fun _ hS => Yld.neq hS rfl rfl) ?_
 refine qB (t := 93) false rfl (by decide) ?_
 refine qA hR rfl (fun _ hS => Yld.pickF hS rfl rfl) ?_
 intro aa hS
 refine wpList_nil ?_
 refine hK988 _ _ ?_
 refine condF hS rfl ?_
 refine wp_skip ?_
 refine hK980 _ _ ?_
 refine wp_region_lit ?_
 refine sA hS hR adQ (by decide) ?_; clear hS; intro aa hS
 revert aa
 refine qM hR ?_
 intro aa hS
 refine wpList_nil ?_
 refine roundU ?_
 replace hS := hS.le (T := [(0, _), (1, _), (2, _), (3, _), (4, _), (5, _), (6, _), (40, _), (41, _), (42, _), (43, _), (44, _), (45, _), (46, _), (47, _), (48, _), (49, _), (65, _), (66, _), (73, _), (74, _), (78, _), (79, _), (80, _), (81, _), (82, _), (83, _), (84, _), (85, _), (86, _), (87, _), (88, _), (89, _), (90, _), (91, _), (92, _), (93, _), (94, _), (95, _)]) (Le.cons rfl (Le.cons rfl (Le.cons rfl (Le.cons rfl (Le.cons rfl (Le.cons rfl (Le.cons rfl (Le.cons rfl (Le.cons rfl (Le.cons rfl (Le.cons rfl (Le.cons rfl (Le.cons rfl (Le.cons rfl (Le.cons rfl (Le.cons rfl (Le.cons rfl (Le.cons rfl (Le.cons rfl (Le.cons rfl (Le.cons rfl (Le.cons rfl (Le.cons rfl (Le.cons rfl (Le.cons rfl (Le.cons rfl (Le.cons rfl (Le.cons rfl (Le.cons rfl (Le.cons rfl (Le.cons rfl (Le.cons rfl (Le.cons rfl (Le.cons rfl (Le.cons rfl (Le.cons rfl (Le.cons rfl (Le.cons rfl (Le.cons rfl (Le.nil _))))))))))))))))))))))))))))))))))))))))
 replace hS := hS.say (t := 42) (.int .i64 4) rfl (by rfl)
 refine wp_seq_k ?_; intro K989 hK989
 refine wp_region_lit ?_
 revert aa
 refine qA hR rfl (fun _ hS => Yld.lss hS rfl rfl) ?_
 refine qB (t := 43) true rfl (by decide) ?_
 intro aa hS
 refine wpList_nil ?_
 refine hK989 _ _ ?_
 refine wp_seq_k ?_; intro K990 hK990
 refine condT hS rfl ?_
 refine wp_skip ?_
 refine hK990 _ _ ?_
 refine wp_seq_k ?_; intro K991 hK991
 refine wp_block ?_
 refine wp_seq_k ?_; intro K992 hK992
 refine wp_region_lit ?_
 revert aa
 refine qM hR ?_
 refine qA hR rfl (fun _ hS => by first | exact Yld.indexL (sz := 6) _ hS rfl rfl Tryz.underlying81 info80 pkQ rfl rfl (by omega) | exact Yld.indexB (sz := 6) _ hS rfl rfl Tryz.underlying81 info80 rfl rfl (by omega) | exact Yld.indexSlice hS rfl rfl Tryz.underlying81 info80 (by omega) (by omega)) ?_
 intro aa hS
 refine sA hS hR (Yld.loadAgg hS rfl Tryz.underlying80 rfl info80 rdsQ6 (by rfl)) (by decide) ?_; clear hS; intro aa hS
 refine sB (Balloc hS hR info80 (by rfl) (by rfl) (by decide) ?_); clear hS hR; intro aa ww bb4 hS hR
 revert aa
 refine qN hR ?_
 intro aa hS
 refine sB (Bstore hS hR rfl rfl (by rfl) info80 (by rfl) pkQ (by rfl) (Nat.le_of_ble_eq_true rfl) ?_); clear hR; intro ww hR
 refine wpList_nil ?_
 refine hK992 _ _ ?_
 refine wp_seq_k ?_; intro K993 hK993
 refine wp_seq_k ?_; intro K994 hK994
 refine wp_region_lit ?_
 revert aa
 refine qM hR ?_
 intro aa hS
 refine wpList_nil ?_
 refine hK994 _ _ ?_
 refine wp_block ?_
 refine wp_seq_k ?_; intro K995 hK995
 refine wp_region_lit ?_
 revert aa
 refine qA hR rfl (fun _ hS => Yld.eql hS rfl rfl) ?_
 refine qB (t := 49) true rfl (by decide) ?_
 refine qN hR ?_
 intro aa hS
 refine wpList_nil ?_
 refine hK995 _ _ ?_
 refine condT hS rfl ?_
 refine wp_seq_k ?_; intro K996 hK996
 refine wp_region_lit ?_
 revert aa
 refine qM hR ?_
 intro aa hS
 refine sB (Bcall hS rfl Tryz.call30 (adCount_ok (D := w4) (a := 9) (by decide) (hR.pk (r := deskA _ b _ _ _ _) pkQ)) (by decide) ?_); clear hS; intro aa ww vv hS hp
 clear hR
 obtain ⟨rfl, hR⟩ := hp
 rw [aq1.1] at hS
 revert aa
 refine qA hR rfl (fun _ hS => Yld.neq hS rfl rfl) ?_
 refine qB (t := 52) false rfl (by decide) ?_
 refine qM hR ?_
 refine qMg hR ?_
 intro aa hS
 refine sBg hS rfl rfl (Bcall hS rfl Tryz.call32 (adSlots_ok (D := w4) (a := 9) (by decide) (hR.pk (r := deskA _ b _ _ _ _) pkQ)) (by decide) ?_); clear hS; intro aa ww vv hS hp
 clear hR
 obtain ⟨ra, ca, rfl, hR⟩ := hp
 rw [aq1.2.1] at hS hR
 refine sBg hS rfl rfl (BbuildSlice hS hR rfl (bls36_1_0 _) (by decide) ?_); clear hS hR; intro aa ww bb56 hS hR
 replace hR := hR.pk (r := blk bb56 _ _) pkQ
 replace hR := Sep.toRecs (m := 1) (sz := 1) (enc := e1) (([1] : List Int)) hR rfl (by intro _; rfl) rfl
 change Sep (sls (some ⟨bb56, 0, none⟩) ([1] : List Int).length 1 3 1 (([1] : List Int).flatMap e1) :: _) _ at hR
 refine sBg hS rfl rfl (Bcall hS rfl Tryz.call14 (eqI_ok (xs := [1]) (ys := [1]) (q1 := ra) (q2 := some ⟨bb56, 0, none⟩) (by simp) (by simp) ((hR.pk (r := sls (some ⟨bb56, 0, none⟩) _ _ _ _ _) pkQ).pk (r := sls ra _ _ _ _ _) pkQ)) (by decide) ?_); clear hS; intro aa ww vv hS hp
 clear hR
 obtain ⟨rfl, hR⟩ := hp
 rw [decide_eq_true rfl] at hS
 revert aa
 refine qAg hR rfl rfl rfl (fun _ hS => Yld.not hS rfl) ?_
 refine qB (t := 58) false rfl (by rfl) ?_
 refine qA hR rfl (fun _ hS => Yld.pickF hS rfl rfl) ?_
 refine qM hR ?_
 refine qMg hR ?_
 intro aa hS
 refine sBg hS rfl rfl (Bcall hS rfl Tryz.call23 (adSee_ok (D := w4) (x := 1) W4.w (Int.le_trans aun.1.2.2.2.2.1 (by decide)) (hR.pk (r := deskA _ b _ _ _ _) pkQ)) (by decide) ?_); clear hS; intro aa ww vv hS hp
 clear hR
 obtain ⟨rfl, hR⟩ := hp
 rw [aq1.2.2] at hS
 change Sep (deskA dd b 2 2 (1, 10, 2) v4 :: _) _ at hR
 revert aa
 refine qAg hR rfl rfl rfl (fun _ hS => Yld.neq hS rfl rfl) ?_
 refine qB (t := 63) false rfl (by decide) ?_
 refine qA hR rfl (fun _ hS => Yld.pickF hS rfl rfl) ?_
 intro aa hS
 refine wpList_nil ?_
 refine hK996 _ _ ?_
 refine condF hS rfl ?_
 refine wp_skip ?_
 refine hK993 _ _ ?_
 refine wp_seq_k ?_; intro K997 hK997
 refine wp_region_lit ?_
 revert aa
 refine qM hR ?_
 refine qA hR rfl (fun _ hS => Yld.fieldAddr hS rfl 0 Tryz.underlying80 rfl rfl info3 (by decide)) ?_
 refine qA hR rfl (fun _ hS => Yld.load1 hS rfl Tryz.underlying3 rfl rdQ) ?_
 refine qA hR rfl (fun _ hS => Yld.fieldAddr hS rfl 1 Tryz.underlying80 rfl rfl info25 (by decide)) ?_
 refine qA hR rfl (fun _ hS => Yld.load1 hS rfl Tryz.underlying25 rfl rdQ) ?_
 intro aa hS
 refine sB (Bcall hS rfl Tryz.call20 (adTry_ok (D := v4) (n := 6) (a := 8) V4 (by decide) ⟨anow.1.2.2.2.2.1, by decide⟩ (Int.le_trans aun.1.2.2.2.2.2.1 (by decide)) (hR.pk (r := deskA _ b _ _ _ _) pkQ)) (by decide) ?_); clear hS; intro aa ww vv hS hp
 clear hR
 obtain ⟨rfl, hR⟩ := hp
 rw [ar4] at hS
 dsimp only [tryV] at hS
 change Sep (deskA dd b 2 2 (1, 10, 2) w5 :: _) _ at hR
 revert aa
 refine qM hR ?_
 refine qX hR ?_
 refine qX hR ?_
 intro aa hS
 refine sB (Balloc hS hR info43 (by rfl) (by rfl) (by decide) ?_); clear hS hR; intro aa ww bb5 hS hR
 refine sB (Bstore hS hR rfl rfl (by rfl) info43 (by rfl) pkQ (by rfl) (Nat.le_of_ble_eq_true rfl) ?_); clear hR; intro ww hR
 revert aa
 refine qN hR ?_
 intro aa hS
 refine wpList_nil ?_
 refine hK997 _ _ ?_
 refine wp_seq_k ?_; intro K998 hK998
 refine wp_region_lit ?_
 refine sA hS hR (Yld.loadAgg hS rfl Tryz.underlying43 rfl info43 rdsQ4 (by rfl)) (by decide) ?_; clear hS; intro aa hS
 refine sA hS hR (Yld.fieldAddr hS rfl 2 Tryz.underlying80 rfl rfl info43 (by decide)) (by decide) ?_; clear hS; intro aa hS
 refine sA hS hR (Yld.loadAgg hS rfl Tryz.underlying43 rfl info43 rdsQ4 (by rfl)) (by decide) ?_; clear hS; intro aa hS
 revert aa
 refine qA hR rfl (fun _ hS => Yld.binRun hS rfl rfl (neq43 _ _ _ _ _ _ _ _ _ _)) ?_
 refine qB (t := 90) false rfl (by decide) ?_
 refine qM hR ?_
 refine qMg hR ?_
 refine qAg hR rfl rfl rfl (fun _ hS => Yld.neq hS rfl rfl) ?_
 refine qB (t := 93) false rfl (by decide) ?_
 refine qA hR rfl (fun _ hS => Yld.pickF hS rfl rfl) ?_
 intro aa hS
 refine wpList_nil ?_
 refine hK998 _ _ ?_
 refine condF hS rfl ?_
 refine wp_skip ?_
 refine hK991 _ _ ?_
 refine wp_region_lit ?_
 refine sA hS hR adQ (by decide) ?_; clear hS; intro aa hS
 revert aa
 refine qM hR ?_
 intro aa hS
 refine wpList_nil ?_
 refine roundU ?_
 replace hS := hS.le (T := [(0, _), (1, _), (2, _), (3, _), (4, _), (5, _), (6, _), (40, _), (41, _), (42, _), (43, _), (44, _), (45, _), (46, _), (47, _), (48, _), (49, _), (50, _), (51, _), (52, _), (53, _), (54, _), (55, _), (56, _), (57, _), (58, _), (59, _), (60, _), (61, _), (62, _), (63, _), (64, _), (65, _), (66, _), (73, _), (74, _), (78, _), (79, _), (80, _), (81, _), (82, _), (83, _), (84, _), (85, _), (86, _), (87, _), (88, _), (89, _), (90, _), (91, _), (92, _), (93, _), (94, _), (95, _)]) (Le.cons rfl (Le.cons rfl (Le.cons rfl (Le.cons rfl (Le.cons rfl (Le.cons rfl (Le.cons rfl (Le.cons rfl (Le.cons rfl (Le.cons rfl (Le.cons rfl (Le.cons rfl (Le.cons rfl (Le.cons rfl (Le.cons rfl (Le.cons rfl (Le.cons rfl (Le.cons rfl (Le.cons rfl (Le.cons rfl (Le.cons rfl (Le.cons rfl (Le.cons rfl (Le.cons rfl (Le.cons rfl (Le.cons rfl (Le.cons rfl (Le.cons rfl (Le.cons rfl (Le.cons rfl (Le.cons rfl (Le.cons rfl (Le.cons rfl (Le.cons rfl (Le.cons rfl (Le.cons rfl (Le.cons rfl (Le.cons rfl (Le.cons rfl (Le.cons rfl (Le.cons rfl (Le.cons rfl (Le.cons rfl (Le.cons rfl (Le.cons rfl (Le.cons rfl (Le.cons rfl (Le.cons rfl (Le.cons rfl (Le.cons rfl (Le.cons rfl (Le.cons rfl (Le.cons rfl (Le.cons rfl (Le.nil _)))))))))))))))))))))))))))))))))))))))))))))))))))))))
 replace hS := hS.say (t := 42) (.int .i64 5) rfl (by rfl)
 refine wp_seq_k ?_; intro K999 hK999
 refine wp_region_lit ?_
 revert aa
 refine qA hR rfl (fun _ hS => Yld.lss hS rfl rfl) ?_
 refine qB (t := 43) true rfl (by decide) ?_
 intro aa hS
 refine wpList_nil ?_
 refine hK999 _ _ ?_
 refine wp_seq_k ?_; intro K1000 hK1000
 refine condT hS rfl ?_
 refine wp_skip ?_
 refine hK1000 _ _ ?_
 refine wp_seq_k ?_; intro K1001 hK1001
 refine wp_block ?_
 refine wp_seq_k ?_; intro K1002 hK1002
 refine wp_region_lit ?_
 revert aa
 refine qM hR ?_
 refine qA hR rfl (fun _ hS => by first | exact Yld.indexL (sz := 6) _ hS rfl rfl Tryz.underlying81 info80 pkQ rfl rfl (by omega) | exact Yld.indexB (sz := 6) _ hS rfl rfl Tryz.underlying81 info80 rfl rfl (by omega) | exact Yld.indexSlice hS rfl rfl Tryz.underlying81 info80 (by omega) (by omega)) ?_
 intro aa hS
 refine sA hS hR (Yld.loadAgg hS rfl Tryz.underlying80 rfl info80 rdsQ6 (by rfl)) (by decide) ?_; clear hS; intro aa hS
 refine sB (Balloc hS hR info80 (by rfl) (by rfl) (by decide) ?_); clear hS hR; intro aa ww bb4 hS hR
 revert aa
 refine qN hR ?_
 intro aa hS
 refine sB (Bstore hS hR rfl rfl (by rfl) info80 (by rfl) pkQ (by rfl) (Nat.le_of_ble_eq_true rfl) ?_); clear hR; intro ww hR
 refine wpList_nil ?_
 refine hK1002 _ _ ?_
 refine wp_seq_k ?_; intro K1003 hK1003
 refine wp_seq_k ?_; intro K1004 hK1004
 refine wp_region_lit ?_
 revert aa
 refine qM hR ?_
 intro aa hS
 refine wpList_nil ?_
 refine hK1004 _ _ ?_
 refine wp_block ?_
 refine wp_seq_k ?_; intro K1005 hK1005
 refine wp_region_lit ?_
 revert aa
 refine qA hR rfl (fun _ hS => Yld.eql hS rfl rfl) ?_
 refine qB (t := 49) false rfl (by decide) ?_
 refine qN hR ?_
 intro aa hS
 refine wpList_nil ?_
 refine hK1005 _ _ ?_
 refine condF hS rfl ?_
 refine wp_seq_k ?_; intro K1006 hK1006
 refine wp_region_lit ?_
 revert aa
 refine qA hR rfl (fun _ hS => Yld.eql hS rfl rfl) ?_
 refine qB (t := 66) true rfl (by decide) ?_
 refine qN hR ?_
 intro aa hS
 refine wpList_nil ?_
 refine hK1006 _ _ ?_
 refine condT hS rfl ?_
 refine wp_seq_k ?_; intro K1007 hK1007
 refine wp_region_lit ?_
 revert aa
 refine qM hR ?_
 intro aa hS
 refine sB (Bcall hS rfl Tryz.call24 (adAssure_ok (D := w5) (x := 0) W5.w (hR.pk (r := deskA _ b _ _ _ _) pkQ)) (by decide) ?_); clear hS; intro aa ww vv hS hp
 clear hR
 obtain ⟨rfl, hR⟩ := hp
 rw [aq2.1] at hS
 change Sep (deskA dd b 2 2 (1, 10, 2) x5 :: _) _ at hR
 revert aa
 refine qM hR ?_
 intro aa hS
 refine sB (Bcall hS rfl Tryz.call24 (adAssure_ok (D := x5) (x := 1) X5.w (hR.pk (r := deskA _ b _ _ _ _) pkQ)) (by decide) ?_); clear hS; intro aa ww vv hS hp
 clear hR
 obtain ⟨rfl, hR⟩ := hp
 rw [aq2.2.1] at hS
 change Sep (deskA dd b 2 2 (1, 10, 2) v5 :: _) _ at hR
 refine sA hS hR adQ (by decide) ?_; clear hS; intro aa hS
 revert aa
 refine qA hR rfl (fun _ hS => Yld.neq hS rfl rfl) ?_
 refine qB (t := 72) false rfl (by decide) ?_
 intro aa hS
 refine wpList_nil ?_
 refine hK1007 _ _ ?_
 refine condF hS rfl ?_
 refine wp_skip ?_
 refine hK1003 _ _ ?_
 refine wp_seq_k ?_; intro K1008 hK1008
 refine wp_region_lit ?_
 revert aa
 refine qM hR ?_
 refine qA hR rfl (fun _ hS => Yld.fieldAddr hS rfl 0 Tryz.underlying80 rfl rfl info3 (by decide)) ?_
 refine qA hR rfl (fun _ hS => Yld.load1 hS rfl Tryz.underlying3 rfl rdQ) ?_
 refine qA hR rfl (fun _ hS => Yld.fieldAddr hS rfl 1 Tryz.underlying80 rfl rfl info25 (by decide)) ?_
 refine qA hR rfl (fun _ hS => Yld.load1 hS rfl Tryz.underlying25 rfl rdQ) ?_
 intro aa hS
 refine sB (Bcall hS rfl Tryz.call20 (adTry_ok (D := v5) (n := 7) (a := 7) V5 (by decide) ⟨anow.1.2.2.2.2.2.1, by decide⟩ (Int.le_trans aun.1.2.2.2.2.2.2.1 (by decide)) (hR.pk (r := deskA _ b _ _ _ _) pkQ)) (by decide) ?_); clear hS; intro aa ww vv hS hp
 clear hR
 obtain ⟨rfl, hR⟩ := hp
 rw [ar5] at hS
 dsimp only [tryV] at hS
 change Sep (deskA dd b 2 2 (1, 10, 2) w6 :: _) _ at hR
 revert aa
 refine qM hR ?_
 refine qX hR ?_
 refine qX hR ?_
 intro aa hS
 refine sB (Balloc hS hR info43 (by rfl) (by rfl) (by decide) ?_); clear hS hR; intro aa ww bb5 hS hR
 refine sB (Bstore hS hR rfl rfl (by rfl) info43 (by rfl) pkQ (by rfl) (Nat.le_of_ble_eq_true rfl) ?_); clear hR; intro ww hR
 revert aa
 refine qN hR ?_
 intro aa hS
 refine wpList_nil ?_
 refine hK1008 _ _ ?_
 refine wp_seq_k ?_; intro K1009 hK1009
 refine wp_region_lit ?_
 refine sA hS hR (Yld.loadAgg hS rfl Tryz.underlying43 rfl info43 rdsQ4 (by rfl)) (by decide) ?_; clear hS; intro aa hS
 refine sA hS hR (Yld.fieldAddr hS rfl 2 Tryz.underlying80 rfl rfl info43 (by decide)) (by decide) ?_; clear hS; intro aa hS
 refine sA hS hR (Yld.loadAgg hS rfl Tryz.underlying43 rfl info43 rdsQ4 (by rfl)) (by decide) ?_; clear hS; intro aa hS
 revert aa
 refine qA hR rfl (fun _ hS => Yld.binRun hS rfl rfl (neq43 _ _ _ _ _ _ _ _ _ _)) ?_
 refine qB (t := 90) false rfl (by decide) ?_
 refine qM hR ?_
 refine qMg hR ?_
 refine qAg hR rfl rfl rfl (fun _ hS => Yld.neq hS rfl rfl) ?_
 refine qB (t := 93) false rfl (by decide) ?_
 refine qA hR rfl (fun _ hS => Yld.pickF hS rfl rfl) ?_
 intro aa hS
 refine wpList_nil ?_
 refine hK1009 _ _ ?_
 refine condF hS rfl ?_
 refine wp_skip ?_
 refine hK1001 _ _ ?_
 refine wp_region_lit ?_
 refine sA hS hR adQ (by decide) ?_; clear hS; intro aa hS
 revert aa
 refine qM hR ?_
 intro aa hS
 refine wpList_nil ?_
 refine roundU ?_
 replace hS := hS.le (T := [(0, _), (1, _), (2, _), (3, _), (4, _), (5, _), (6, _), (40, _), (41, _), (42, _), (43, _), (44, _), (45, _), (46, _), (47, _), (48, _), (49, _), (50, _), (51, _), (52, _), (53, _), (54, _), (55, _), (56, _), (57, _), (58, _), (59, _), (60, _), (61, _), (62, _), (63, _), (64, _), (65, _), (66, _), (67, _), (68, _), (69, _), (70, _), (71, _), (72, _), (73, _), (74, _), (78, _), (79, _), (80, _), (81, _), (82, _), (83, _), (84, _), (85, _), (86, _), (87, _), (88, _), (89, _), (90, _), (91, _), (92, _), (93, _), (94, _), (95, _)]) (Le.cons rfl (Le.cons rfl (Le.cons rfl (Le.cons rfl (Le.cons rfl (Le.cons rfl (Le.cons rfl (Le.cons rfl (Le.cons rfl (Le.cons rfl (Le.cons rfl (Le.cons rfl (Le.cons rfl (Le.cons rfl (Le.cons rfl (Le.cons rfl (Le.cons rfl (Le.cons rfl (Le.cons rfl (Le.cons rfl (Le.cons rfl (Le.cons rfl (Le.cons rfl (Le.cons rfl (Le.cons rfl (Le.cons rfl (Le.cons rfl (Le.cons rfl (Le.cons rfl (Le.cons rfl (Le.cons rfl (Le.cons rfl (Le.cons rfl (Le.cons rfl (Le.cons rfl (Le.cons rfl (Le.cons rfl (Le.cons rfl (Le.cons rfl (Le.cons rfl (Le.cons rfl (Le.cons rfl (Le.cons rfl (Le.cons rfl (Le.cons rfl (Le.cons rfl (Le.cons rfl (Le.cons rfl (Le.cons rfl (Le.cons rfl (Le.cons rfl (Le.cons rfl (Le.cons rfl (Le.cons rfl (Le.cons rfl (Le.cons rfl (Le.cons rfl (Le.cons rfl (Le.cons rfl (Le.cons rfl (Le.nil _)))))))))))))))))))))))))))))))))))))))))))))))))))))))))))))
 replace hS := hS.say (t := 42) (.int .i64 6) rfl (by rfl)
 refine wp_seq_k ?_; intro K1010 hK1010
 refine wp_region_lit ?_
 revert aa
 refine qA hR rfl (fun _ hS => Yld.lss hS rfl rfl) ?_
 refine qB (t := 43) true rfl (by decide) ?_
 intro aa hS
 refine wpList_nil ?_
 refine hK1010 _ _ ?_
 refine wp_seq_k ?_; intro K1011 hK1011
 refine condT hS rfl ?_
 refine wp_skip ?_
 refine hK1011 _ _ ?_
 refine wp_seq_k ?_; intro K1012 hK1012
 refine wp_block ?_
 refine wp_seq_k ?_; intro K1013 hK1013
 refine wp_region_lit ?_
 revert aa
 refine qM hR ?_
 refine qA hR rfl (fun _ hS => by first | exact Yld.indexL (sz := 6) _ hS rfl rfl Tryz.underlying81 info80 pkQ rfl rfl (by omega) | exact Yld.indexB (sz := 6) _ hS rfl rfl Tryz.underlying81 info80 rfl rfl (by omega) | exact Yld.indexSlice hS rfl rfl Tryz.underlying81 info80 (by omega) (by omega)) ?_
 intro aa hS
 refine sA hS hR (Yld.loadAgg hS rfl Tryz.underlying80 rfl info80 rdsQ6 (by rfl)) (by decide) ?_; clear hS; intro aa hS
 refine sB (Balloc hS hR info80 (by rfl) (by rfl) (by decide) ?_); clear hS hR; intro aa ww bb4 hS hR
 revert aa
 refine qN hR ?_
 intro aa hS
 refine sB (Bstore hS hR rfl rfl (by rfl) info80 (by rfl) pkQ (by rfl) (Nat.le_of_ble_eq_true rfl) ?_); clear hR; intro ww hR
 refine wpList_nil ?_
 refine hK1013 _ _ ?_
 refine wp_seq_k ?_; intro K1014 hK1014
 refine wp_seq_k ?_; intro K1015 hK1015
 refine wp_region_lit ?_
 revert aa
 refine qM hR ?_
 intro aa hS
 refine wpList_nil ?_
 refine hK1015 _ _ ?_
 refine wp_block ?_
 refine wp_seq_k ?_; intro K1016 hK1016
 refine wp_region_lit ?_
 revert aa
 refine qA hR rfl (fun _ hS => Yld.eql hS rfl rfl) ?_
 refine qB (t := 49) false rfl (by decide) ?_
 refine qN hR ?_
 intro aa hS
 refine wpList_nil ?_
 refine hK1016 _ _ ?_
 refine condF hS rfl ?_
 refine wp_seq_k ?_; intro K1017 hK1017
 refine wp_region_lit ?_
 revert aa
 refine qA hR rfl (fun _ hS => Yld.eql hS rfl rfl) ?_
 refine qB (t := 66) false rfl (by decide) ?_
 refine qN hR ?_
 intro aa hS
 refine wpList_nil ?_
 refine hK1017 _ _ ?_
 refine condF hS rfl ?_
 refine wp_seq_k ?_; intro K1018 hK1018
 refine wp_region_lit ?_
 revert aa
 refine qA hR rfl (fun _ hS => Yld.eql hS rfl rfl) ?_
 refine qB (t := 74) true rfl (by decide) ?_
 refine qN hR ?_
 intro aa hS
 refine wpList_nil ?_
 refine hK1018 _ _ ?_
 refine condT hS rfl ?_
 refine wp_seq_k ?_; intro K1019 hK1019
 refine wp_region_lit ?_
 revert aa
 refine qM hR ?_
 intro aa hS
 refine sB (Bcall hS rfl Tryz.call25 (adClose_ok (D := w6) (x := 1) W6.w (hR.pk (r := deskA _ b _ _ _ _) pkQ)) (by decide) ?_); clear hS; intro aa ww vv hS hp
 clear hR
 obtain ⟨rfl, hR⟩ := hp
 rw [aq2.2.2] at hS
 change Sep (deskA dd b 2 2 (1, 10, 2) v6 :: _) _ at hR
 revert aa
 refine qA hR rfl (fun _ hS => Yld.neq hS rfl rfl) ?_
 refine qB (t := 77) false rfl (by decide) ?_
 intro aa hS
 refine wpList_nil ?_
 refine hK1019 _ _ ?_
 refine condF hS rfl ?_
 refine wp_skip ?_
 refine hK1014 _ _ ?_
 refine wp_seq_k ?_; intro K1020 hK1020
 refine wp_region_lit ?_
 revert aa
 refine qM hR ?_
 refine qA hR rfl (fun _ hS => Yld.fieldAddr hS rfl 0 Tryz.underlying80 rfl rfl info3 (by decide)) ?_
 refine qA hR rfl (fun _ hS => Yld.load1 hS rfl Tryz.underlying3 rfl rdQ) ?_
 refine qA hR rfl (fun _ hS => Yld.fieldAddr hS rfl 1 Tryz.underlying80 rfl rfl info25 (by decide)) ?_
 refine qA hR rfl (fun _ hS => Yld.load1 hS rfl Tryz.underlying25 rfl rdQ) ?_
 intro aa hS
 refine sB (Bcall hS rfl Tryz.call20 (adTry_ok (D := v6) (n := 7) (a := 9) V6 (by decide) ⟨anow.1.2.2.2.2.2.2, by decide⟩ (Int.le_trans aun.1.2.2.2.2.2.2.2 (by decide)) (hR.pk (r := deskA _ b _ _ _ _) pkQ)) (by decide) ?_); clear hS; intro aa ww vv hS hp
 clear hR
 obtain ⟨rfl, hR⟩ := hp
 rw [ar6] at hS
 dsimp only [tryV] at hS
 change Sep (deskA dd b 2 2 (1, 10, 2) w7 :: _) _ at hR
 revert aa
 refine qM hR ?_
 refine qX hR ?_
 refine qX hR ?_
 intro aa hS
 refine sB (Balloc hS hR info43 (by rfl) (by rfl) (by decide) ?_); clear hS hR; intro aa ww bb5 hS hR
 refine sB (Bstore hS hR rfl rfl (by rfl) info43 (by rfl) pkQ (by rfl) (Nat.le_of_ble_eq_true rfl) ?_); clear hR; intro ww hR
 revert aa
 refine qN hR ?_
 intro aa hS
 refine wpList_nil ?_
 refine hK1020 _ _ ?_
 refine wp_seq_k ?_; intro K1021 hK1021
 refine wp_region_lit ?_
 refine sA hS hR (Yld.loadAgg hS rfl Tryz.underlying43 rfl info43 rdsQ4 (by rfl)) (by decide) ?_; clear hS; intro aa hS
 refine sA hS hR (Yld.fieldAddr hS rfl 2 Tryz.underlying80 rfl rfl info43 (by decide)) (by decide) ?_; clear hS; intro aa hS
 refine sA hS hR (Yld.loadAgg hS rfl Tryz.underlying43 rfl info43 rdsQ4 (by rfl)) (by decide) ?_; clear hS; intro aa hS
 revert aa
 refine qA hR rfl (fun _ hS => Yld.binRun hS rfl rfl (neq43 _ _ _ _ _ _ _ _ _ _)) ?_
 refine qB (t := 90) false rfl (by decide) ?_
 refine qM hR ?_
 refine qMg hR ?_
 refine qAg hR rfl rfl rfl (fun _ hS => Yld.neq hS rfl rfl) ?_
 refine qB (t := 93) false rfl (by decide) ?_
 refine qA hR rfl (fun _ hS => Yld.pickF hS rfl rfl) ?_
 intro aa hS
 refine wpList_nil ?_
 refine hK1021 _ _ ?_
 refine condF hS rfl ?_
 refine wp_skip ?_
 refine hK1012 _ _ ?_
 refine wp_region_lit ?_
 refine sA hS hR adQ (by decide) ?_; clear hS; intro aa hS
 revert aa
 refine qM hR ?_
 intro aa hS
 refine wpList_nil ?_
 refine roundU ?_
 replace hS := hS.le (T := [(0, _), (1, _), (2, _), (3, _), (4, _), (5, _), (6, _), (40, _), (41, _), (42, _), (43, _), (44, _), (45, _), (46, _), (47, _), (48, _), (49, _), (50, _), (51, _), (52, _), (53, _), (54, _), (55, _), (56, _), (57, _), (58, _), (59, _), (60, _), (61, _), (62, _), (63, _), (64, _), (65, _), (66, _), (67, _), (68, _), (69, _), (70, _), (71, _), (72, _), (73, _), (74, _), (75, _), (76, _), (77, _), (78, _), (79, _), (80, _), (81, _), (82, _), (83, _), (84, _), (85, _), (86, _), (87, _), (88, _), (89, _), (90, _), (91, _), (92, _), (93, _), (94, _), (95, _)]) (Le.cons rfl (Le.cons rfl (Le.cons rfl (Le.cons rfl (Le.cons rfl (Le.cons rfl (Le.cons rfl (Le.cons rfl (Le.cons rfl (Le.cons rfl (Le.cons rfl (Le.cons rfl (Le.cons rfl (Le.cons rfl (Le.cons rfl (Le.cons rfl (Le.cons rfl (Le.cons rfl (Le.cons rfl (Le.cons rfl (Le.cons rfl (Le.cons rfl (Le.cons rfl (Le.cons rfl (Le.cons rfl (Le.cons rfl (Le.cons rfl (Le.cons rfl (Le.cons rfl (Le.cons rfl (Le.cons rfl (Le.cons rfl (Le.cons rfl (Le.cons rfl (Le.cons rfl (Le.cons rfl (Le.cons rfl (Le.cons rfl (Le.cons rfl (Le.cons rfl (Le.cons rfl (Le.cons rfl (Le.cons rfl (Le.cons rfl (Le.cons rfl (Le.cons rfl (Le.cons rfl (Le.cons rfl (Le.cons rfl (Le.cons rfl (Le.cons rfl (Le.cons rfl (Le.cons rfl (Le.cons rfl (Le.cons rfl (Le.cons rfl (Le.cons rfl (Le.cons rfl (Le.cons rfl (Le.cons rfl (Le.cons rfl (Le.cons rfl (Le.cons rfl (Le.nil _))))))))))))))))))))))))))))))))))))))))))))))))))))))))))))))))
 replace hS := hS.say (t := 42) (.int .i64 7) rfl (by rfl)
 refine wp_seq_k ?_; intro K1022 hK1022
 refine wp_region_lit ?_
 revert aa
 refine qA hR rfl (fun _ hS => Yld.lss hS rfl rfl) ?_
 refine qB (t := 43) false rfl (by decide) ?_
 intro aa hS
 refine wpList_nil ?_
 refine hK1022 _ _ ?_
 refine wp_seq_k ?_; intro K1023 hK1023
 refine condF hS rfl ?_
 refine wp_exit ?_
 refine hK943 _ _ ?_
 refine wp_seq_k ?_; intro K1024 hK1024
 refine wp_region_lit ?_
 revert aa
 refine qM hR ?_
 intro aa hS
 refine sB (Bcall hS rfl Tryz.call20 (adTry_bad (D := w7) (n := 6) (a := 9) (.inl anow.2.2) (hR.pk (r := deskA _ b _ _ _ _) pkQ)) (by decide) ?_); clear hS; intro aa ww vv hS hp
 clear hR
 obtain ⟨rfl, hR⟩ := hp
 revert aa
 refine qM hR ?_
 refine qX hR ?_
 refine qX hR ?_
 refine qN hR ?_
 intro aa hS
 refine wpList_nil ?_
 refine hK1024 _ _ ?_
 refine wp_seq_k ?_; intro K1025 hK1025
 refine wp_region_lit ?_
 refine sB (Bcall hS rfl Tryz.call19 (rules_ok hR) (by decide) ?_); clear hS; intro aa ww vv hS hp
 clear hR
 obtain ⟨rfl, hR⟩ := hp
 refine sB (Bcall hS rfl Tryz.call34 (adNew_ok (S := 2) (lim := 2) (t := 1) (p := 10) (u := 1) (by decide) (by decide) (by decide) (by decide) rr1 hR) (by decide) ?_); clear hS; intro aa ww vv hS hp
 clear hR
 obtain ⟨b2, rfl, hR⟩ := hp
 change Sep (deskA dd b2 2 2 (1, 10, 1) w0 :: _) _ at hR
 revert aa
 refine qM hR ?_
 refine qX hR ?_
 refine qX hR ?_
 refine qN hR ?_
 refine qN hR ?_
 intro aa hS
 refine wpList_nil ?_
 refine hK1025 _ _ ?_
 refine wp_seq_k ?_; intro K1026 hK1026
 refine wp_seq_k ?_; intro K1027 hK1027
 refine wp_region_lit ?_
 revert aa
 refine qM hR ?_
 refine qA hR rfl (fun _ hS => Yld.neq hS rfl rfl) ?_
 refine qB (t := 107) false rfl (by decide) ?_
 refine qM hR ?_
 refine qMg hR ?_
 refine qAg hR rfl rfl rfl (fun _ hS => Yld.neq hS rfl rfl) ?_
 refine qB (t := 110) false rfl (by decide) ?_
 refine qA hR rfl (fun _ hS => Yld.pickF hS rfl rfl) ?_
 refine qM hR ?_
 refine qMg hR ?_
 intro aa hS
 refine sBg hS rfl rfl (Bcall hS rfl Tryz.call31 (adTokens_ok (D := w7) (a := 9) W7 (by decide) (hR.pk (r := deskA _ b _ _ _ _) pkQ)) (by decide) ?_); clear hS; intro aa ww vv hS hp
 clear hR
 obtain ⟨rfl, hR⟩ := hp
 rw [aq3] at hS
 revert aa
 refine qAg hR rfl rfl rfl (fun _ hS => Yld.neq hS rfl rfl) ?_
 refine qB (t := 115) false rfl (by decide) ?_
 refine qA hR rfl (fun _ hS => Yld.pickF hS rfl rfl) ?_
 intro aa hS
 refine wpList_nil ?_
 refine hK1027 _ _ ?_
 refine condF hS rfl ?_
 refine wp_skip ?_
 refine hK1026 _ _ ?_
 refine wp_seq_k ?_; intro K1028 hK1028
 refine wp_region_lit ?_
 revert aa
 refine qM hR ?_
 intro aa hS
 refine sB (Bcall hS rfl Tryz.call20 (adTry_ok (D := w0) (n := 5) (a := 9) O0 (by decide) ⟨anow.1.1, by decide⟩ (Int.le_trans aun.1.1 (by decide)) (hR.pk (r := deskA _ b2 _ _ _ _) pkQ)) (by decide) ?_); clear hS; intro aa ww vv hS hp
 clear hR
 obtain ⟨rfl, hR⟩ := hp
 rw [as0] at hS
 dsimp only [tryV] at hS
 change Sep (deskA dd b2 2 2 (1, 10, 1) o1 :: _) _ at hR
 revert aa
 refine qM hR ?_
 refine qX hR ?_
 refine qX hR ?_
 intro aa hS
 refine sB (Balloc hS hR info43 (by rfl) (by rfl) (by decide) ?_); clear hS hR; intro aa ww bb9 hS hR
 refine sB (Bstore hS hR rfl rfl (by rfl) info43 (by rfl) pkQ (by rfl) (Nat.le_of_ble_eq_true rfl) ?_); clear hR; intro ww hR
 revert aa
 refine qN hR ?_
 intro aa hS
 refine wpList_nil ?_
 refine hK1028 _ _ ?_
 refine wp_seq_k ?_; intro K1029 hK1029
 refine wp_region_lit ?_
 revert aa
 refine qM hR ?_
 intro aa hS
 refine sB (Bcall hS rfl Tryz.call20 (adTry_ok (D := o1) (n := 5) (a := 9) O1 (by decide) ⟨anow.2.1.1, by decide⟩ (Int.le_trans aun.2.1 (by decide)) (hR.pk (r := deskA _ b2 _ _ _ _) pkQ)) (by decide) ?_); clear hS; intro aa ww vv hS hp
 clear hR
 obtain ⟨rfl, hR⟩ := hp
 rw [as1] at hS
 dsimp only [tryV] at hS
 change Sep (deskA dd b2 2 2 (1, 10, 1) o2 :: _) _ at hR
 revert aa
 refine qM hR ?_
 refine qX hR ?_
 refine qX hR ?_
 intro aa hS
 refine sB (Balloc hS hR info43 (by rfl) (by rfl) (by decide) ?_); clear hS hR; intro aa ww bb11 hS hR
 refine sB (Bstore hS hR rfl rfl (by rfl) info43 (by rfl) pkQ (by rfl) (Nat.le_of_ble_eq_true rfl) ?_); clear hR; intro ww hR
 revert aa
 refine qN hR ?_
 intro aa hS
 refine wpList_nil ?_
 refine hK1029 _ _ ?_
 refine wp_seq_k ?_; intro K1030 hK1030
 refine wp_region_lit ?_
 revert aa
 refine qM hR ?_
 intro aa hS
 refine sB (Bcall hS rfl Tryz.call20 (adTry_ok (D := o2) (n := 15) (a := 9) O2 (by decide) ⟨anow.2.1.2, by decide⟩ (Int.le_trans aun.2.2 (by decide)) (hR.pk (r := deskA _ b2 _ _ _ _) pkQ)) (by decide) ?_); clear hS; intro aa ww vv hS hp
 clear hR
 obtain ⟨rfl, hR⟩ := hp
 rw [as2] at hS
 dsimp only [tryV] at hS
 change Sep (deskA dd b2 2 2 (1, 10, 1) o3 :: _) _ at hR
 revert aa
 refine qM hR ?_
 refine qX hR ?_
 refine qX hR ?_
 intro aa hS
 refine sB (Balloc hS hR info43 (by rfl) (by rfl) (by decide) ?_); clear hS hR; intro aa ww bb13 hS hR
 refine sB (Bstore hS hR rfl rfl (by rfl) info43 (by rfl) pkQ (by rfl) (Nat.le_of_ble_eq_true rfl) ?_); clear hR; intro ww hR
 revert aa
 refine qN hR ?_
 intro aa hS
 refine wpList_nil ?_
 refine hK1030 _ _ ?_
 refine wp_seq_k ?_; intro K1031 hK1031
 refine wp_region_lit ?_
 revert aa
 refine qA hR rfl (fun _ hS => Yld.fieldAddr hS rfl 0 Tryz.underlying43 rfl rfl info5 (by decide)) ?_
 refine qA hR rfl (fun _ hS => Yld.load1 hS rfl Tryz.underlying5 rfl rdQ) ?_
 refine qA hR rfl (fun _ hS => Yld.eql hS rfl rfl) ?_
 refine qB (t := 134) true rfl (by decide) ?_
 refine qM hR ?_
 refine qAg hR rfl rfl rfl (fun _ hS => Yld.fieldAddr hS rfl 0 Tryz.underlying43 rfl rfl info5 (by decide)) ?_
 refine qAg hR rfl rfl rfl (fun _ hS => Yld.load1 hS rfl Tryz.underlying5 rfl rdQ) ?_
 refine qAg hR rfl rfl rfl (fun _ hS => Yld.eql hS rfl rfl) ?_
 refine qB (t := 138) true rfl (by decide) ?_
 refine qA hR rfl (fun _ hS => Yld.pickT hS rfl rfl) ?_
 refine qM hR ?_
 refine qAg hR rfl rfl rfl (fun _ hS => Yld.fieldAddr hS rfl 0 Tryz.underlying43 rfl rfl info5 (by decide)) ?_
 refine qAg hR rfl rfl rfl (fun _ hS => Yld.load1 hS rfl Tryz.underlying5 rfl rdQ) ?_
 refine qAg hR rfl rfl rfl (fun _ hS => Yld.eql hS rfl rfl) ?_
 refine qB (t := 143) true rfl (by decide) ?_
 refine qA hR rfl (fun _ hS => Yld.pickT hS rfl rfl) ?_
 refine qM hR ?_
 refine qAg hR rfl rfl rfl (fun _ hS => Yld.fieldAddr hS rfl 1 Tryz.underlying43 rfl rfl info3 (by decide)) ?_
 refine qAg hR rfl rfl rfl (fun _ hS => Yld.load1 hS rfl Tryz.underlying3 rfl rdQ) ?_
 refine qAg hR rfl rfl rfl (fun _ hS => Yld.eql hS rfl rfl) ?_
 refine qB (t := 148) true rfl (by decide) ?_
 refine qA hR rfl (fun _ hS => Yld.pickT hS rfl rfl) ?_
 refine qN hR ?_
 intro aa hS
 refine wpList_nil ?_
 refine hK1031 _ _ ?_
 refine wp_ret ?_
 repeat first | with_reducible refine thenR ?_ | with_reducible refine blockR ?_ | with_reducible refine scopeR ?_
 refine ret1 (fn := Tryz.f7) (e := .ret) (.inl rfl) Tryz.results7 hS hR ⟨_, (.tmp rfl), ?_⟩
 exact ⟨rfl, (hR.sub exQ)⟩
end Go.Proofs.YtkhdejjompbklaaGreat.Sx
