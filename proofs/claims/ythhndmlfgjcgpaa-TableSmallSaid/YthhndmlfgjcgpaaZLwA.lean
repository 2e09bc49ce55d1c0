/-
 
-/
import Derived.Test.YthhndmlfgjcgpaaZTbD
namespace Go.Proofs.Ythhndmlfgjcgpaa.Sx
open Go
set_option maxRecDepth 20000
set_option linter.unusedVariables false
set_option linter.unusedSimpArgs false
theorem bld29_0 (x0 : Int) (w : World) : (Instr.build 29 [(0, .int .i64 x0)].toArray).run Try.prog w = .ok (.agg [.int .i64 x0, .int .i64 0].toArray) w := by kernel_rfl
theorem bld29_1 (x1 : Int) (w : World) : (Instr.build 29 [(1, .int .i64 x1)].toArray).run Try.prog w = .ok (.agg [.int .i64 0, .int .i64 x1].toArray) w := by kernel_rfl
theorem bld35_0_1_2_3_4 (x0 : Int) (x1 : Int) (x2 : Int) (x3 : Int) (x4 : Int) (w : World) : (Instr.build 35 [(0, .int .u8 x0), (1, .int .u32 x1), (2, .int .u32 x2), (3, .int .u16 x3), (4, .int .u16 x4)].toArray).run Try.prog w = .ok (.agg [.int .u8 x0, .int .u32 x1, .int .u32 x2, .int .u16 x3, .int .u16 x4].toArray) w := by kernel_rfl
theorem eql35 (o1 o2 : Operand) (x_0 : Int) (x_1 : Int) (x_2 : Int) (x_3 : Int) (x_4 : Int) (y_0 : Int) (y_1 : Int) (y_2 : Int) (y_3 : Int) (y_4 : Int) (w : World) : (do eqGuard .eql 35 o1 o2 (.agg [.int .u8 x_0, .int .u32 x_1, .int .u32 x_2, .int .u16 x_3, .int .u16 x_4].toArray) (.agg [.int .u8 y_0, .int .u32 y_1, .int .u32 y_2, .int .u16 y_3, .int .u16 y_4].toArray); binOp .eql 35 (.agg [.int .u8 x_0, .int .u32 x_1, .int .u32 x_2, .int .u16 x_3, .int .u16 x_4].toArray) (.agg [.int .u8 y_0, .int .u32 y_1, .int .u32 y_2, .int .u16 y_3, .int .u16 y_4].toArray) : Sem Value).run Try.prog w = .ok (.bool (decide (x_0 = y_0 ∧ x_1 = y_1 ∧ x_2 = y_2 ∧ x_3 = y_3 ∧ x_4 = y_4))) w := by
 by_cases h0 : x_0 = y_0
 ·
  skip
  by_cases h1 : x_1 = y_1
  ·
   skip
   by_cases h2 : x_2 = y_2
   ·
    skip
    by_cases h3 : x_3 = y_3
    ·
     skip
     by_cases h4 : x_4 = y_4
     ·
      simp [go_sem, h0, h1, h2, h3, h4]
     ·
      simp [go_sem, h0, h1, h2, h3, h4]
    ·
     simp [go_sem, h0, h1, h2, h3]
   ·
    simp [go_sem, h0, h1, h2]
  ·
   simp [go_sem, h0, h1]
 ·
  simp [go_sem, h0]
theorem neq29 (o1 o2 : Operand) (x_0 : Int) (x_1 : Int) (y_0 : Int) (y_1 : Int) (w : World) : (do eqGuard .neq 29 o1 o2 (.agg [.int .i64 x_0, .int .i64 x_1].toArray) (.agg [.int .i64 y_0, .int .i64 y_1].toArray); binOp .neq 29 (.agg [.int .i64 x_0, .int .i64 x_1].toArray) (.agg [.int .i64 y_0, .int .i64 y_1].toArray) : Sem Value).run Try.prog w = .ok (.bool (!decide (x_0 = y_0 ∧ x_1 = y_1))) w := by
 by_cases h0 : x_0 = y_0
 ·
  skip
  by_cases h1 : x_1 = y_1
  ·
   simp [go_sem, h0, h1]
  ·
   simp [go_sem, h0, h1]
 ·
  simp [go_sem, h0]
def exA : Ky := (17, 167772161, 167772162, 53, 99)
def exB : Ky := (17, 167772161, 167772162, 54, 99)
theorem wfA : WfK exA := by constructor <;> decide
theorem wfB : WfK exB := by constructor <;> decide
def s0 : Tb := { F := [], A := Ar.new 2 }
def s1 : Tb := addN s0 2 exA 0
def s2 : Tb := addN s1 2 (trn exA) 0
def s3 : Tb := addN s2 2 exB 0
def s4 : Tb := addN s3 2 k0 0
def s5 : Tb := movN s4 2 0 0 0
def s6 : Tb := outN s5 0 0
def s7 : Tb := addN s6 2 (trn exA) 1
theorem q1 : addR s0 2 exA 0 = ((0, 0), 0) := by decide +kernel
theorem q2 : fndV s1.F (trn exA) = .tuple [vH 0 0, .bool true, .bool true].toArray := by kernel_rfl
theorem q3 : addR s1 2 (trn exA) 0 = ((0, 0), 160) := by decide +kernel
theorem q4 : addR s2 2 exB 0 = ((1, 0), 0) := by decide +kernel
theorem q5 : addR s3 2 k0 0 = ((0, 0), 4) := by decide +kernel
theorem q6 : movR s4 2 0 0 0 = 0 := by decide +kernel
theorem q7 : (inF s5.F 0).map hd2 = [(1, 0), (0, 0)] := by decide +kernel
theorem q8 : outR s5 0 0 = (exA, 0) := by decide +kernel
theorem q9 : addR s6 2 (trn exA) 1 = ((0, 1), 0) := by decide +kernel
theorem q10 : fndV s7.F exA = .tuple [vH 0 1, .bool true, .bool true].toArray := by kernel_rfl
theorem q11 : (frmF s7.F 167772161).length = 1 := by decide +kernel
theorem Example16_ok {l : List HP} {w : World} (hR : Sep l w) : CallR Try.prog 31 ([] : List Value) w (fun v w' => v = vK exA ∧ Sep l w') := by
 refine enter Try.func31 rfl Try.ntmps31 (Nat.le_of_ble_eq_true rfl) ?_; intro aa hS
 refine wp_seq_k ?_; intro K565 hK565
 refine wp_region_lit ?_
 refine sB (Balloc hS hR info35 (by rfl) (by rfl) (by decide) ?_); clear hS hR; intro aa ww bb0 hS hR
 refine wpList_nil ?_
 refine hK565 _ _ ?_
 refine wp_seq_k ?_; intro K566 hK566
 refine wp_region_lit ?_
 refine sA hS hR (Yld.build hS rfl (bld35_0_1_2_3_4 _ _ _ _ _)) (by decide) ?_; clear hS; intro aa hS
 refine sB (Bstore hS hR rfl rfl (by rfl) info35 (by rfl) pkQ (by rfl) (Nat.le_of_ble_eq_true rfl) ?_); clear hR; intro ww hR
 refine wpList_nil ?_
 refine hK566 _ _ ?_
 refine wp_ret ?_
 repeat first | with_reducible refine thenR ?_ | with_reducible refine blockR ?_ | with_reducible refine scopeR ?_
 refine ret1 (fn := Try.f31) (e := .ret) (.inl rfl) Try.results31 hS hR ⟨_, (.agg rfl Try.underlying35 rfl info35 (Rds.cons (Rd.blk pkQ (by rfl)) (Rds.cons (Rd.blk pkQ (by rfl)) (Rds.cons (Rd.blk pkQ (by rfl)) (Rds.cons (Rd.blk pkQ (by rfl)) (Rds.cons (Rd.blk pkQ (by rfl)) (Rds.nil)))))) (by rfl)), ?_⟩
 exact ⟨rfl, (hR.sub exQ)⟩
set_option maxHeartbeats 4000000 in
theorem awake16_ok {l : List HP} {w : World} (hR : Sep l w) : CallR Try.prog 11 ([] : List Value) w (fun v w' => v = .bool true ∧ Sep l w') := by
 refine enter Try.func11 rfl Try.ntmps11 (Nat.le_of_ble_eq_true rfl) ?_; intro aa hS
 refine wp_seq_k ?_; intro K567 hK567
 refine wp_region_lit ?_
 revert aa
 refine qN hR ?_
 intro aa hS
 refine wpList_nil ?_
 refine hK567 _ _ ?_
 refine wp_seq_k ?_; intro K568 hK568
 refine wp_region_lit ?_
 refine sB (Bcall hS rfl Try.call17 (TbNew_ok (S := 2) (n := 2) hR (by omega) (by omega) (by omega) (by omega)) (by decide) ?_); clear hS; intro aa ww vv hS hp
 clear hR
 obtain ⟨b, rfl, hR⟩ := hp
 change Sep (tableA tt b 2 2 s0 :: _) _ at hR
 revert aa
 refine qM hR ?_
 refine qX hR ?_
 refine qX hR ?_
 refine qN hR ?_
 refine qN hR ?_
 intro aa hS
 refine wpList_nil ?_
 refine hK568 _ _ ?_
 refine wp_seq_k ?_; intro K569 hK569
 refine wp_seq_k ?_; intro K570 hK570
 refine wp_region_lit ?_
 revert aa
 refine qM hR ?_
 refine qA hR rfl (fun _ hS => Yld.neq hS rfl rfl) ?_
 refine qB (t := 27) false rfl (by decide) ?_
 refine qM hR ?_
 refine qMg hR ?_
 refine qAg hR rfl rfl rfl (fun _ hS => Yld.eqlNil hS rfl rfl Try.underlying23) ?_
 refine qB (t := 30) false rfl (by rfl) ?_
 refine qA hR rfl (fun _ hS => Yld.pickF hS rfl rfl) ?_
 intro aa hS
 refine wpList_nil ?_
 refine hK570 _ _ ?_
 refine condF hS rfl ?_
 refine wp_skip ?_
 refine hK569 _ _ ?_
 refine wp_seq_k ?_; intro K571 hK571
 refine wp_region_lit ?_
 refine sB (Bcall hS rfl Try.call31 (Example16_ok hR) (by decide) ?_); clear hS; intro aa ww vv hS hp
 clear hR
 obtain ⟨rfl, hR⟩ := hp
 refine sB (Balloc hS hR info35 (by rfl) (by rfl) (by decide) ?_); clear hS hR; intro aa ww bb3 hS hR
 refine sB (Bstore hS hR rfl rfl (by rfl) info35 (by rfl) pkQ (by rfl) (Nat.le_of_ble_eq_true rfl) ?_); clear hR; intro ww hR
 refine wpList_nil ?_
 refine hK571 _ _ ?_
 refine wp_seq_k ?_; intro K572 hK572
 refine wp_region_lit ?_
 refine sA hS hR (Yld.loadAgg hS rfl Try.underlying35 rfl info35 (by first | exact Rds.cons (Rd.blk pkQ (by rfl)) (Rds.cons (Rd.blk pkQ (by rfl)) (Rds.cons (Rd.blk pkQ (by rfl)) (Rds.cons (Rd.blk pkQ (by rfl)) (Rds.cons (Rd.blk pkQ (by rfl)) (Rds.nil))))) | exact Rds.rec pkQ (by intro _; rfl) (by (first | omega | decide)) | exact Rds.flat1 pkQ (by intro _; rfl) (by (first | omega | decide))) (by rfl)) (by decide) ?_; clear hS; intro aa hS
 refine sB (Balloc hS hR info35 (by rfl) (by rfl) (by decide) ?_); clear hS hR; intro aa ww bb4 hS hR
 refine sB (Bstore hS hR rfl rfl (by rfl) info35 (by rfl) pkQ (by rfl) (Nat.le_of_ble_eq_true rfl) ?_); clear hR; intro ww hR
 refine wpList_nil ?_
 refine hK572 _ _ ?_
 refine wp_seq_k ?_; intro K573 hK573
 refine wp_region_lit ?_
 refine sA hS hR (Yld.fieldAddr hS rfl 3 Try.underlying35 rfl rfl info33 (by decide)) (by decide) ?_; clear hS; intro aa hS
 refine sB (Bstore hS hR rfl rfl (by rfl) info33 (by rfl) pkQ (by rfl) (Nat.le_of_ble_eq_true rfl) ?_); clear hR; intro ww hR
 refine wpList_nil ?_
 refine hK573 _ _ ?_
 refine wp_seq_k ?_; intro K574 hK574
 refine wp_region_lit ?_
 revert aa
 refine qM hR ?_
 intro aa hS
 refine sA hS hR (Yld.loadAgg hS rfl Try.underlying35 rfl info35 (by first | exact Rds.cons (Rd.blk pkQ (by rfl)) (Rds.cons (Rd.blk pkQ (by rfl)) (Rds.cons (Rd.blk pkQ (by rfl)) (Rds.cons (Rd.blk pkQ (by rfl)) (Rds.cons (Rd.blk pkQ (by rfl)) (Rds.nil))))) | exact Rds.rec pkQ (by intro _; rfl) (by (first | omega | decide)) | exact Rds.flat1 pkQ (by intro _; rfl) (by (first | omega | decide))) (by rfl)) (by decide) ?_; clear hS; intro aa hS
 refine sB (Bcall hS rfl Try.call18 (Add_ok (n := 2) (S := 2) (k := exA) (i := 0) wfA (hR.pk (r := tableA _ b _ _ _) pkQ)) (by decide) ?_); clear hS; intro aa ww vv hS hp
 clear hR
 obtain ⟨rfl, hR⟩ := hp
 rw [q1] at hS; dsimp only at hS
 change Sep (tableA tt b 2 2 s1 :: _) _ at hR
 revert aa
 refine qM hR ?_
 refine qX hR ?_
 refine qX hR ?_
 intro aa hS
 refine sB (Balloc hS hR info29 (by rfl) (by rfl) (by decide) ?_); clear hS hR; intro aa ww bb5 hS hR
 refine sB (Bstore hS hR rfl rfl (by rfl) info29 (by rfl) pkQ (by rfl) (Nat.le_of_ble_eq_true rfl) ?_); clear hR; intro ww hR
 revert aa
 refine qN hR ?_
 intro aa hS
 refine wpList_nil ?_
 refine hK574 _ _ ?_
 refine wp_seq_k ?_; intro K575 hK575
 refine wp_region_lit ?_
 revert aa
 refine qM hR ?_
 intro aa hS
 refine sA hS hR (Yld.loadAgg hS rfl Try.underlying35 rfl info35 (by first | exact Rds.cons (Rd.blk pkQ (by rfl)) (Rds.cons (Rd.blk pkQ (by rfl)) (Rds.cons (Rd.blk pkQ (by rfl)) (Rds.cons (Rd.blk pkQ (by rfl)) (Rds.cons (Rd.blk pkQ (by rfl)) (Rds.nil))))) | exact Rds.rec pkQ (by intro _; rfl) (by (first | omega | decide)) | exact Rds.flat1 pkQ (by intro _; rfl) (by (first | omega | decide))) (by rfl)) (by decide) ?_; clear hS; intro aa hS
 refine sB (Bcall hS rfl Try.call16 (Turn_ok (k := exA) hR) (by decide) ?_); clear hS; intro aa ww vv hS hp
 clear hR
 obtain ⟨rfl, hR⟩ := hp
 refine sB (Bcall hS rfl Try.call12 (Find_ok (k := trn exA) (trn_wf wfA) (hR.pk (r := tableA _ b _ _ _) pkQ)) (by decide) ?_); clear hS; intro aa ww vv hS hp
 clear hR
 obtain ⟨rfl, hR⟩ := hp
 rw [q2] at hS
 revert aa
 refine qM hR ?_
 refine qX hR ?_
 refine qX hR ?_
 refine qX hR ?_
 intro aa hS
 refine sB (Balloc hS hR info29 (by rfl) (by rfl) (by decide) ?_); clear hS hR; intro aa ww bb7 hS hR
 refine sB (Bstore hS hR rfl rfl (by rfl) info29 (by rfl) pkQ (by rfl) (Nat.le_of_ble_eq_true rfl) ?_); clear hR; intro ww hR
 revert aa
 refine qN hR ?_
 refine qN hR ?_
 intro aa hS
 refine wpList_nil ?_
 refine hK575 _ _ ?_
 refine wp_seq_k ?_; intro K576 hK576
 refine wp_region_lit ?_
 revert aa
 refine qM hR ?_
 intro aa hS
 refine sA hS hR (Yld.loadAgg hS rfl Try.underlying35 rfl info35 (by first | exact Rds.cons (Rd.blk pkQ (by rfl)) (Rds.cons (Rd.blk pkQ (by rfl)) (Rds.cons (Rd.blk pkQ (by rfl)) (Rds.cons (Rd.blk pkQ (by rfl)) (Rds.cons (Rd.blk pkQ (by rfl)) (Rds.nil))))) | exact Rds.rec pkQ (by intro _; rfl) (by (first | omega | decide)) | exact Rds.flat1 pkQ (by intro _; rfl) (by (first | omega | decide))) (by rfl)) (by decide) ?_; clear hS; intro aa hS
 refine sB (Bcall hS rfl Try.call16 (Turn_ok (k := exA) hR) (by decide) ?_); clear hS; intro aa ww vv hS hp
 clear hR
 obtain ⟨rfl, hR⟩ := hp
 refine sB (Bcall hS rfl Try.call18 (Add_ok (n := 2) (S := 2) (k := (trn exA)) (i := 0) (trn_wf wfA) (hR.pk (r := tableA _ b _ _ _) pkQ)) (by decide) ?_); clear hS; intro aa ww vv hS hp
 clear hR
 obtain ⟨rfl, hR⟩ := hp
 rw [q3] at hS; dsimp only at hS
 change Sep (tableA tt b 2 2 s2 :: _) _ at hR
 revert aa
 refine qM hR ?_
 refine qX hR ?_
 refine qX hR ?_
 intro aa hS
 refine sB (Balloc hS hR info29 (by rfl) (by rfl) (by decide) ?_); clear hS hR; intro aa ww bb10 hS hR
 refine sB (Bstore hS hR rfl rfl (by rfl) info29 (by rfl) pkQ (by rfl) (Nat.le_of_ble_eq_true rfl) ?_); clear hR; intro ww hR
 revert aa
 refine qN hR ?_
 intro aa hS
 refine wpList_nil ?_
 refine hK576 _ _ ?_
 refine wp_seq_k ?_; intro K577 hK577
 refine wp_region_lit ?_
 revert aa
 refine qM hR ?_
 intro aa hS
 refine sA hS hR (Yld.loadAgg hS rfl Try.underlying35 rfl info35 (by first | exact Rds.cons (Rd.blk pkQ (by rfl)) (Rds.cons (Rd.blk pkQ (by rfl)) (Rds.cons (Rd.blk pkQ (by rfl)) (Rds.cons (Rd.blk pkQ (by rfl)) (Rds.cons (Rd.blk pkQ (by rfl)) (Rds.nil))))) | exact Rds.rec pkQ (by intro _; rfl) (by (first | omega | decide)) | exact Rds.flat1 pkQ (by intro _; rfl) (by (first | omega | decide))) (by rfl)) (by decide) ?_; clear hS; intro aa hS
 replace hS := hS.say (t := 58) (vK exB) rfl rfl
 refine sB (Bcall hS rfl Try.call18 (Add_ok (n := 2) (S := 2) (k := exB) (i := 0) wfB (hR.pk (r := tableA _ b _ _ _) pkQ)) (by decide) ?_); clear hS; intro aa ww vv hS hp
 clear hR
 obtain ⟨rfl, hR⟩ := hp
 rw [q4] at hS; dsimp only at hS
 change Sep (tableA tt b 2 2 s3 :: _) _ at hR
 revert aa
 refine qM hR ?_
 refine qX hR ?_
 refine qX hR ?_
 intro aa hS
 refine sB (Balloc hS hR info29 (by rfl) (by rfl) (by decide) ?_); clear hS hR; intro aa ww bb12 hS hR
 refine sB (Bstore hS hR rfl rfl (by rfl) info29 (by rfl) pkQ (by rfl) (Nat.le_of_ble_eq_true rfl) ?_); clear hR; intro ww hR
 revert aa
 refine qN hR ?_
 intro aa hS
 refine wpList_nil ?_
 refine hK577 _ _ ?_
 refine wp_seq_k ?_; intro K578 hK578
 refine wp_region_lit ?_
 revert aa
 refine qM hR ?_
 refine qA hR rfl (fun _ hS => Yld.build hS rfl (bld35_)) ?_
 intro aa hS
 refine sB (Bcall hS rfl Try.call18 (Add_ok (n := 2) (S := 2) (k := k0) (i := 0) wfk0 (hR.pk (r := tableA _ b _ _ _) pkQ)) (by decide) ?_); clear hS; intro aa ww vv hS hp
 clear hR
 obtain ⟨rfl, hR⟩ := hp
 rw [q5] at hS; dsimp only at hS
 change Sep (tableA tt b 2 2 s4 :: _) _ at hR
 revert aa
 refine qM hR ?_
 refine qX hR ?_
 refine qX hR ?_
 intro aa hS
 refine sB (Balloc hS hR info29 (by rfl) (by rfl) (by decide) ?_); clear hS hR; intro aa ww bb14 hS hR
 refine sB (Bstore hS hR rfl rfl (by rfl) info29 (by rfl) pkQ (by rfl) (Nat.le_of_ble_eq_true rfl) ?_); clear hR; intro ww hR
 revert aa
 refine qN hR ?_
 intro aa hS
 refine wpList_nil ?_
 refine hK578 _ _ ?_
 refine wp_seq_k ?_; intro K579 hK579
 refine wp_seq_k ?_; intro K580 hK580
 refine wp_region_lit ?_
 revert aa
 refine qM hR ?_
 refine qM hR ?_
 intro aa hS
 refine sA hS hR adQ (by decide) ?_; clear hS; intro aa hS
 revert aa
 refine qA hR rfl (fun _ hS => Yld.neq hS rfl rfl) ?_
 refine qB (t := 71) false rfl (by decide) ?_
 refine qM hR ?_
 refine qMg hR ?_
 refine qAg hR rfl rfl rfl (fun _ hS => Yld.neq hS rfl rfl) ?_
 refine qB (t := 74) false rfl (by decide) ?_
 refine qA hR rfl (fun _ hS => Yld.pickF hS rfl rfl) ?_
 refine qM hR ?_
 refine qMg hR ?_
 refine qAg hR rfl rfl rfl (fun _ hS => Yld.neq hS rfl rfl) ?_
 refine qB (t := 78) false rfl (by decide) ?_
 refine qA hR rfl (fun _ hS => Yld.pickF hS rfl rfl) ?_
 refine qM hR ?_
 intro aa hS
 refine sAg hS hR rfl rfl (Yld.loadAgg hS rfl Try.underlying29 rfl info29 (by first | exact Rds.cons (Rd.blk pkQ (by rfl)) (Rds.cons (Rd.blk pkQ (by rfl)) (Rds.nil)) | exact Rds.rec pkQ (by intro _; rfl) (by (first | omega | decide)) | exact Rds.flat1 pkQ (by intro _; rfl) (by (first | omega | decide))) (by rfl)) (by decide) ?_; clear hS; intro aa hS
 revert aa
 refine qAg hR rfl rfl rfl (fun _ hS => Yld.build hS rfl (bld29_)) ?_
 refine qAg hR rfl rfl rfl (fun _ hS => Yld.binRun hS rfl rfl (neq29 _ _ _ _ _ _)) ?_
 refine qB (t := 83) false rfl (by decide) ?_
 refine qA hR rfl (fun _ hS => Yld.pickF hS rfl rfl) ?_
 refine qM hR ?_
 intro aa hS
 refine sAg hS hR rfl rfl (Yld.loadAgg hS rfl Try.underlying29 rfl info29 (by first | exact Rds.cons (Rd.blk pkQ (by rfl)) (Rds.cons (Rd.blk pkQ (by rfl)) (Rds.nil)) | exact Rds.rec pkQ (by intro _; rfl) (by (first | omega | decide)) | exact Rds.flat1 pkQ (by intro _; rfl) (by (first | omega | decide))) (by rfl)) (by decide) ?_; clear hS; intro aa hS
 revert aa
 refine qAg hR rfl rfl rfl (fun _ hS => Yld.build hS rfl (bld29_0 _)) ?_
 refine qAg hR rfl rfl rfl (fun _ hS => Yld.binRun hS rfl rfl (neq29 _ _ _ _ _ _)) ?_
 refine qB (t := 88) false rfl (by decide) ?_
 refine qA hR rfl (fun _ hS => Yld.pickF hS rfl rfl) ?_
 refine qM hR ?_
 intro aa hS
 refine sAg hS hR rfl rfl (Yld.loadAgg hS rfl Try.underlying29 rfl info29 (by first | exact Rds.cons (Rd.blk pkQ (by rfl)) (Rds.cons (Rd.blk pkQ (by rfl)) (Rds.nil)) | exact Rds.rec pkQ (by intro _; rfl) (by (first | omega | decide)) | exact Rds.flat1 pkQ (by intro _; rfl) (by (first | omega | decide))) (by rfl)) (by decide) ?_; clear hS; intro aa hS
 refine sAg hS hR rfl rfl (Yld.loadAgg hS rfl Try.underlying29 rfl info29 (by first | exact Rds.cons (Rd.blk pkQ (by rfl)) (Rds.cons (Rd.blk pkQ (by rfl)) (Rds.nil)) | exact Rds.rec pkQ (by intro _; rfl) (by (first | omega | decide)) | exact Rds.flat1 pkQ (by intro _; rfl) (by (first | omega | decide))) (by rfl)) (by decide) ?_; clear hS; intro aa hS
 revert aa
 refine qAg hR rfl rfl rfl (fun _ hS => Yld.binRun hS rfl rfl (neq29 _ _ _ _ _ _)) ?_
 refine qB (t := 93) false rfl (by decide) ?_
 refine qA hR rfl (fun _ hS => Yld.pickF hS rfl rfl) ?_
 refine qM hR ?_
 refine qMg hR ?_
 refine qB (t := 96) true rfl (by rfl) ?_
 refine qAg hR rfl rfl rfl (fun _ hS => Yld.not hS rfl) ?_
 refine qA hR rfl (fun _ hS => Yld.pickF hS rfl rfl) ?_
 refine qM hR ?_
 refine qMg hR ?_
 refine qB (t := 100) true rfl (by rfl) ?_
 refine qAg hR rfl rfl rfl (fun _ hS => Yld.not hS rfl) ?_
 refine qA hR rfl (fun _ hS => Yld.pickF hS rfl rfl) ?_
 refine qM hR ?_
 refine qMg hR ?_
 intro aa hS
 refine sAg hS hR rfl rfl (Yld.loadAgg hS rfl Try.underlying29 rfl info29 (by first | exact Rds.cons (Rd.blk pkQ (by rfl)) (Rds.cons (Rd.blk pkQ (by rfl)) (Rds.nil)) | exact Rds.rec pkQ (by intro _; rfl) (by (first | omega | decide)) | exact Rds.flat1 pkQ (by intro _; rfl) (by (first | omega | decide))) (by rfl)) (by decide) ?_; clear hS; intro aa hS
 refine sBg hS rfl rfl (Bcall hS rfl Try.call15 (TbMove (s := 0) (u := 0) (i := 0) (n := 2) (hR.pk (r := tableA _ b _ _ _) pkQ)) (by decide) ?_); clear hS; intro aa ww vv hS hp
 clear hR
 obtain ⟨rfl, hR⟩ := hp
 rw [q6] at hS
 change Sep (tableA tt b 2 2 s5 :: _) _ at hR
 revert aa
 refine qAg hR rfl rfl rfl (fun _ hS => Yld.neq hS rfl rfl) ?_
 refine qB (t := 107) false rfl (by decide) ?_
 refine qA hR rfl (fun _ hS => Yld.pickF hS rfl rfl) ?_
 intro aa hS
 refine wpList_nil ?_
 refine hK580 _ _ ?_
 refine condF hS rfl ?_
 refine wp_skip ?_
 refine hK579 _ _ ?_
 refine wp_seq_k ?_; intro K581 hK581
 refine wp_region_lit ?_
 revert aa
 refine qM hR ?_
 intro aa hS
 refine sB (Bcall hS rfl Try.call14 (TbIn_ok (i := 0) (hR.pk (r := tableA _ b _ _ _) pkQ)) (by decide) ?_); clear hS; intro aa ww vv hS hp
 clear hR
 obtain ⟨ra, ca, rfl, hR⟩ := hp
 rw [q7] at hS hR
 revert aa
 refine qN hR ?_
 intro aa hS
 refine wpList_nil ?_
 refine hK581 _ _ ?_
 refine wp_seq_k ?_; intro K582 hK582
 refine wp_region_lit ?_
 revert aa
 refine qM hR ?_
 intro aa hS
 refine sA hS hR (Yld.loadAgg hS rfl Try.underlying29 rfl info29 (by first | exact Rds.cons (Rd.blk pkQ (by rfl)) (Rds.cons (Rd.blk pkQ (by rfl)) (Rds.nil)) | exact Rds.rec pkQ (by intro _; rfl) (by (first | omega | decide)) | exact Rds.flat1 pkQ (by intro _; rfl) (by (first | omega | decide))) (by rfl)) (by decide) ?_; clear hS; intro aa hS
 refine sB (Bcall hS rfl Try.call21 (TbOut (s := 0) (u := 0) (hR.pk (r := tableA _ b _ _ _) pkQ)) (by decide) ?_); clear hS; intro aa ww vv hS hp
 clear hR
 obtain ⟨rfl, hR⟩ := hp
 rw [q8] at hS; dsimp only at hS
 change Sep (tableA tt b 2 2 s6 :: _) _ at hR
 revert aa
 refine qM hR ?_
 refine qX hR ?_
 refine qX hR ?_
 intro aa hS
 refine sB (Balloc hS hR info35 (by rfl) (by rfl) (by decide) ?_); clear hS hR; intro aa ww bb17 hS hR
 refine sB (Bstore hS hR rfl rfl (by rfl) info35 (by rfl) pkQ (by rfl) (Nat.le_of_ble_eq_true rfl) ?_); clear hR; intro ww hR
 revert aa
 refine qN hR ?_
 intro aa hS
 refine wpList_nil ?_
 refine hK582 _ _ ?_
 refine wp_seq_k ?_; intro K583 hK583
 refine wp_region_lit ?_
 revert aa
 refine qM hR ?_
 intro aa hS
 refine sA hS hR (Yld.loadAgg hS rfl Try.underlying35 rfl info35 (by first | exact Rds.cons (Rd.blk pkQ (by rfl)) (Rds.cons (Rd.blk pkQ (by rfl)) (Rds.cons (Rd.blk pkQ (by rfl)) (Rds.cons (Rd.blk pkQ (by rfl)) (Rds.cons (Rd.blk pkQ (by rfl)) (Rds.nil))))) | exact Rds.rec pkQ (by intro _; rfl) (by (first | omega | decide)) | exact Rds.flat1 pkQ (by intro _; rfl) (by (first | omega | decide))) (by rfl)) (by decide) ?_; clear hS; intro aa hS
 refine sB (Bcall hS rfl Try.call16 (Turn_ok (k := exA) hR) (by decide) ?_); clear hS; intro aa ww vv hS hp
 clear hR
 obtain ⟨rfl, hR⟩ := hp
 refine sB (Bcall hS rfl Try.call18 (Add_ok (n := 2) (S := 2) (k := (trn exA)) (i := 1) (trn_wf wfA) (hR.pk (r := tableA _ b _ _ _) pkQ)) (by decide) ?_); clear hS; intro aa ww vv hS hp
 clear hR
 obtain ⟨rfl, hR⟩ := hp
 rw [q9] at hS; dsimp only at hS
 change Sep (tableA tt b 2 2 s7 :: _) _ at hR
 revert aa
 refine qM hR ?_
 refine qX hR ?_
 refine qX hR ?_
 intro aa hS
 refine sB (Balloc hS hR info29 (by rfl) (by rfl) (by decide) ?_); clear hS hR; intro aa ww bb19 hS hR
 refine sB (Bstore hS hR rfl rfl (by rfl) info29 (by rfl) pkQ (by rfl) (Nat.le_of_ble_eq_true rfl) ?_); clear hR; intro ww hR
 revert aa
 refine qN hR ?_
 intro aa hS
 refine wpList_nil ?_
 refine hK583 _ _ ?_
 refine wp_seq_k ?_; intro K584 hK584
 refine wp_region_lit ?_
 revert aa
 refine qM hR ?_
 intro aa hS
 refine sA hS hR (Yld.loadAgg hS rfl Try.underlying35 rfl info35 (by first | exact Rds.cons (Rd.blk pkQ (by rfl)) (Rds.cons (Rd.blk pkQ (by rfl)) (Rds.cons (Rd.blk pkQ (by rfl)) (Rds.cons (Rd.blk pkQ (by rfl)) (Rds.cons (Rd.blk pkQ (by rfl)) (Rds.nil))))) | exact Rds.rec pkQ (by intro _; rfl) (by (first | omega | decide)) | exact Rds.flat1 pkQ (by intro _; rfl) (by (first | omega | decide))) (by rfl)) (by decide) ?_; clear hS; intro aa hS
 refine sB (Bcall hS rfl Try.call12 (Find_ok (k := exA) wfA (hR.pk (r := tableA _ b _ _ _) pkQ)) (by decide) ?_); clear hS; intro aa ww vv hS hp
 clear hR
 obtain ⟨rfl, hR⟩ := hp
 rw [q10] at hS
 revert aa
 refine qM hR ?_
 refine qX hR ?_
 refine qX hR ?_
 refine qX hR ?_
 intro aa hS
 refine sB (Balloc hS hR info29 (by rfl) (by rfl) (by decide) ?_); clear hS hR; intro aa ww bb21 hS hR
 refine sB (Bstore hS hR rfl rfl (by rfl) info29 (by rfl) pkQ (by rfl) (Nat.le_of_ble_eq_true rfl) ?_); clear hR; intro ww hR
 revert aa
 refine qN hR ?_
 refine qN hR ?_
 intro aa hS
 refine wpList_nil ?_
 refine hK584 _ _ ?_
 refine wp_seq_k ?_; intro K585 hK585
 refine drawn krQ hR Ex.refl ?_; clear hR; intro ww hR hR0
 revert aa
 refine eA 0 rfl krQ (fun _ _ _ h => h) hR0 rfl (fun _ hS => Yld.move hS rfl) ?_
 refine eA 1 rfl krQ (fun _ _ _ h => h) hR0 rfl (fun _ hS => Yld.len hS rfl Try.underlying38) ?_
 refine eA 2 rfl krQ (fun _ _ _ h => h) hR0 rfl (fun _ hS => Yld.eql hS rfl rfl) ?_
 refine qB (t := 133) true rfl (by decide) ?_
 refine eA 3 rfl krQ (fun _ _ _ h => h) hR0 rfl (fun _ hS => Yld.move hS rfl) ?_
 refine eAg 4 rfl krQ (fun _ _ _ h => h) hR0 rfl rfl rfl (fun _ hS => Yld.move hS rfl) ?_
 intro aa hS
 refine dAg 5 rfl krQ krQ krQ (fun _ _ _ h => h) hS rfl rfl hR0 ((by first | exact Yld.indexL (sz := 2) (0) hS rfl rfl Try.underlying38 info29 pkQ rfl (by first | rfl | omega) (by first | omega | decide | (simp; done)) | exact Yld.indexB (sz := 2) (0) hS rfl rfl Try.underlying38 info29 rfl (by first | rfl | omega) (by first | omega | decide | (simp; done)))) (by decide) ?_; clear hS; intro aa hS
 refine dAg 6 rfl krQ krQ krQ (fun _ _ _ h => h) hS rfl rfl hR0 (Yld.loadAgg hS rfl Try.underlying29 rfl info29 (by first | exact Rds.cons (Rd.blk pkQ (by rfl)) (Rds.cons (Rd.blk pkQ (by rfl)) (Rds.nil)) | exact Rds.rec pkQ (by intro _; rfl) (by (first | omega | decide)) | exact Rds.flat1 pkQ (by intro _; rfl) (by (first | omega | decide))) (by rfl)) (by decide) ?_; clear hS; intro aa hS
 refine dAg 7 rfl krQ krQ krQ (fun _ _ _ h => h) hS rfl rfl hR0 (Yld.loadAgg hS rfl Try.underlying29 rfl info29 (by first | exact Rds.cons (Rd.blk pkQ (by rfl)) (Rds.cons (Rd.blk pkQ (by rfl)) (Rds.nil)) | exact Rds.rec pkQ (by intro _; rfl) (by (first | omega | decide)) | exact Rds.flat1 pkQ (by intro _; rfl) (by (first | omega | decide))) (by rfl)) (by decide) ?_; clear hS; intro aa hS
 revert aa
 refine eAg 8 rfl krQ (fun _ _ _ h => h) hR0 rfl rfl rfl (fun _ hS => Yld.binRun hS rfl rfl (eql29 _ _ _ _ _ _)) ?_
 refine qB (t := 139) true rfl (by decide) ?_
 refine eA 9 rfl krQ (fun _ _ _ h => h) hR0 rfl (fun _ hS => Yld.pickT hS rfl rfl) ?_
 refine eA 10 rfl krQ (fun _ _ _ h => h) hR0 rfl (fun _ hS => Yld.move hS rfl) ?_
 refine eAg 11 rfl krQ (fun _ _ _ h => h) hR0 rfl rfl rfl (fun _ hS => Yld.move hS rfl) ?_
 intro aa hS
 refine dAg 12 rfl krQ krQ krQ (fun _ _ _ h => h) hS rfl rfl hR0 ((by first | exact Yld.indexL (sz := 2) (1) hS rfl rfl Try.underlying38 info29 pkQ rfl (by first | rfl | omega) (by first | omega | decide | (simp; done)) | exact Yld.indexB (sz := 2) (1) hS rfl rfl Try.underlying38 info29 rfl (by first | rfl | omega) (by first | omega | decide | (simp; done)))) (by decide) ?_; clear hS; intro aa hS
 refine dAg 13 rfl krQ krQ krQ (fun _ _ _ h => h) hS rfl rfl hR0 (Yld.loadAgg hS rfl Try.underlying29 rfl info29 (by first | exact Rds.cons (Rd.blk pkQ (by rfl)) (Rds.cons (Rd.blk pkQ (by rfl)) (Rds.nil)) | exact Rds.rec pkQ (by intro _; rfl) (by (first | omega | decide)) | exact Rds.flat1 pkQ (by intro _; rfl) (by (first | omega | decide))) (by rfl)) (by decide) ?_; clear hS; intro aa hS
 refine dAg 14 rfl krQ krQ krQ (fun _ _ _ h => h) hS rfl rfl hR0 (Yld.loadAgg hS rfl Try.underlying29 rfl info29 (by first | exact Rds.cons (Rd.blk pkQ (by rfl)) (Rds.cons (Rd.blk pkQ (by rfl)) (Rds.nil)) | exact Rds.rec pkQ (by intro _; rfl) (by (first | omega | decide)) | exact Rds.flat1 pkQ (by intro _; rfl) (by (first | omega | decide))) (by rfl)) (by decide) ?_; clear hS; intro aa hS
 revert aa
 refine eAg 15 rfl krQ (fun _ _ _ h => h) hR0 rfl rfl rfl (fun _ hS => Yld.binRun hS rfl rfl (eql29 _ _ _ _ _ _)) ?_
 refine qB (t := 146) true rfl (by decide) ?_
 refine eA 16 rfl krQ (fun _ _ _ h => h) hR0 rfl (fun _ hS => Yld.pickT hS rfl rfl) ?_
 refine eA 17 rfl krQ (fun _ _ _ h => h) hR0 rfl (fun _ hS => Yld.move hS rfl) ?_
 intro aa hS
 refine dAg 18 rfl krQ krQ krQ (fun _ _ _ h => h) hS rfl rfl hR0 (Yld.loadAgg hS rfl Try.underlying35 rfl info35 (by first | exact Rds.cons (Rd.blk pkQ (by rfl)) (Rds.cons (Rd.blk pkQ (by rfl)) (Rds.cons (Rd.blk pkQ (by rfl)) (Rds.cons (Rd.blk pkQ (by rfl)) (Rds.cons (Rd.blk pkQ (by rfl)) (Rds.nil))))) | exact Rds.rec pkQ (by intro _; rfl) (by (first | omega | decide)) | exact Rds.flat1 pkQ (by intro _; rfl) (by (first | omega | decide))) (by rfl)) (by decide) ?_; clear hS; intro aa hS
 refine dAg 19 rfl krQ krQ krQ (fun _ _ _ h => h) hS rfl rfl hR0 (Yld.loadAgg hS rfl Try.underlying35 rfl info35 (by first | exact Rds.cons (Rd.blk pkQ (by rfl)) (Rds.cons (Rd.blk pkQ (by rfl)) (Rds.cons (Rd.blk pkQ (by rfl)) (Rds.cons (Rd.blk pkQ (by rfl)) (Rds.cons (Rd.blk pkQ (by rfl)) (Rds.nil))))) | exact Rds.rec pkQ (by intro _; rfl) (by (first | omega | decide)) | exact Rds.flat1 pkQ (by intro _; rfl) (by (first | omega | decide))) (by rfl)) (by decide) ?_; clear hS; intro aa hS
 revert aa
 refine eAg 20 rfl krQ (fun _ _ _ h => h) hR0 rfl rfl rfl (fun _ hS => Yld.binRun hS rfl rfl (eql35 _ _ _ _ _ _ _ _ _ _ _ _)) ?_
 refine qB (t := 151) true rfl (by simp) ?_
 refine eA 21 rfl krQ (fun _ _ _ h => h) hR0 rfl (fun _ hS => Yld.pickT hS rfl rfl) ?_
 refine eA 22 rfl krQ (fun _ _ _ h => h) hR0 rfl (fun _ hS => Yld.move hS rfl) ?_
 refine eAg 23 rfl krQ (fun _ _ _ h => h) hR0 rfl rfl rfl (fun _ hS => Yld.move hS rfl) ?_
 refine eAg 24 rfl krQ (fun _ _ _ h => h) hR0 rfl rfl rfl (fun _ hS => Yld.move hS rfl) ?_
 intro aa hS
 refine dAg 25 rfl krQ krQ krQ (fun _ _ _ h => h) hS rfl rfl hR0 adQ (by decide) ?_; clear hS; intro aa hS
 revert aa
 refine eAg 26 rfl krQ (fun _ _ _ h => h) hR0 rfl rfl rfl (fun _ hS => Yld.eql hS rfl rfl) ?_
 refine qB (t := 157) true rfl (by decide) ?_
 refine eA 27 rfl krQ (fun _ _ _ h => h) hR0 rfl (fun _ hS => Yld.pickT hS rfl rfl) ?_
 refine eA 28 rfl krQ (fun _ _ _ h => h) hR0 rfl (fun _ hS => Yld.move hS rfl) ?_
 intro aa hS
 refine dAg 29 rfl krQ krQ krQ (fun _ _ _ h => h) hS rfl rfl hR0 (Yld.loadAgg hS rfl Try.underlying29 rfl info29 (by first | exact Rds.cons (Rd.blk pkQ (by rfl)) (Rds.cons (Rd.blk pkQ (by rfl)) (Rds.nil)) | exact Rds.rec pkQ (by intro _; rfl) (by (first | omega | decide)) | exact Rds.flat1 pkQ (by intro _; rfl) (by (first | omega | decide))) (by rfl)) (by decide) ?_; clear hS; intro aa hS
 revert aa
 refine eAg 30 rfl krQ (fun _ _ _ h => h) hR0 rfl rfl rfl (fun _ hS => Yld.build hS rfl (bld29_1 _)) ?_
 refine eAg 31 rfl krQ (fun _ _ _ h => h) hR0 rfl rfl rfl (fun _ hS => Yld.binRun hS rfl rfl (eql29 _ _ _ _ _ _)) ?_
 refine qB (t := 162) true rfl (by decide) ?_
 refine eA 32 rfl krQ (fun _ _ _ h => h) hR0 rfl (fun _ hS => Yld.pickT hS rfl rfl) ?_
 refine eA 33 rfl krQ (fun _ _ _ h => h) hR0 rfl (fun _ hS => Yld.move hS rfl) ?_
 intro aa hS
 refine dAg 34 rfl krQ krQ krQ (fun _ _ _ h => h) hS rfl rfl hR0 (Yld.loadAgg hS rfl Try.underlying29 rfl info29 (by first | exact Rds.cons (Rd.blk pkQ (by rfl)) (Rds.cons (Rd.blk pkQ (by rfl)) (Rds.nil)) | exact Rds.rec pkQ (by intro _; rfl) (by (first | omega | decide)) | exact Rds.flat1 pkQ (by intro _; rfl) (by (first | omega | decide))) (by rfl)) (by decide) ?_; clear hS; intro aa hS
 refine dAg 35 rfl krQ krQ krQ (fun _ _ _ h => h) hS rfl rfl hR0 (Yld.loadAgg hS rfl Try.underlying29 rfl info29 (by first | exact Rds.cons (Rd.blk pkQ (by rfl)) (Rds.cons (Rd.blk pkQ (by rfl)) (Rds.nil)) | exact Rds.rec pkQ (by intro _; rfl) (by (first | omega | decide)) | exact Rds.flat1 pkQ (by intro _; rfl) (by (first | omega | decide))) (by rfl)) (by decide) ?_; clear hS; intro aa hS
 revert aa
 refine eAg 36 rfl krQ (fun _ _ _ h => h) hR0 rfl rfl rfl (fun _ hS => Yld.binRun hS rfl rfl (eql29 _ _ _ _ _ _)) ?_
 refine qB (t := 167) true rfl (by decide) ?_
 refine eA 37 rfl krQ (fun _ _ _ h => h) hR0 rfl (fun _ hS => Yld.pickT hS rfl rfl) ?_
 refine eA 38 rfl krQ (fun _ _ _ h => h) hR0 rfl (fun _ hS => Yld.move hS rfl) ?_
 refine eAg 39 rfl krQ (fun _ _ _ h => h) hR0 rfl rfl rfl (fun _ hS => Yld.move hS rfl) ?_
 refine qB (t := 170) true rfl (by rfl) ?_
 refine eA 40 rfl krQ (fun _ _ _ h => h) hR0 rfl (fun _ hS => Yld.pickT hS rfl rfl) ?_
 refine eA 41 rfl krQ (fun _ _ _ h => h) hR0 rfl (fun _ hS => Yld.move hS rfl) ?_
 refine eAg 42 rfl krQ (fun _ _ _ h => h) hR0 rfl rfl rfl (fun _ hS => Yld.move hS rfl) ?_
 refine qB (t := 173) true rfl (by rfl) ?_
 refine eA 43 rfl krQ (fun _ _ _ h => h) hR0 rfl (fun _ hS => Yld.pickT hS rfl rfl) ?_
 refine eA 44 rfl krQ (fun _ _ _ h => h) hR0 rfl (fun _ hS => Yld.move hS rfl) ?_
 refine eAg 45 rfl krQ (fun _ _ _ h => h) hR0 rfl rfl rfl (fun _ hS => Yld.move hS rfl) ?_
 refine eAg 46 rfl krQ (fun _ _ _ h => h) hR0 rfl rfl rfl (fun _ hS => Yld.fieldAddr hS rfl 1 Try.underlying35 rfl rfl info32 (by decide)) ?_
 intro aa hS
 refine dAg 47 rfl krQ krQ krQ (fun _ _ _ h => h) hS rfl rfl hR0 (Yld.load1 hS rfl Try.underlying32 rfl (by first | exact Rd.blk pkQ (by rfl) | exact Rd.rec pkQ (by intro _; rfl) (by (first | omega | decide)) rfl | exact Rd.rec0 pkQ (by intro _; rfl) (by (first | omega | decide)) rfl | exact Rd.flatJ pkQ (by intro _; rfl) (by (first | omega | decide)) rfl | exact Rd.flat0 pkQ (by intro _; rfl) (by (first | omega | decide)) rfl)) (by decide) ?_; clear hS; intro aa hS
 refine dOne (i := 48) krQ ?_
 refine dopg rfl hS rfl rfl (Bcall hS rfl Try.call33 (TbCount_ok (src := 167772161) (by omega) (hR.pk (r := tableA _ b _ _ _) pkQ)) (by decide) ?_); clear hS; intro aa ww vv hS hp
 clear hR hR0
 obtain ⟨rfl, hR⟩ := hp
 rw [q11] at hS
 refine dnext (hR.sub exQ) ?_; intro hR0
 revert aa
 refine eAg 49 rfl krQ (fun _ _ _ h => h) hR0 rfl rfl rfl (fun _ hS => Yld.eql hS rfl rfl) ?_
 refine qB (t := 180) true rfl (by decide) ?_
 refine eA 50 rfl krQ (fun _ _ _ h => h) hR0 rfl (fun _ hS => Yld.pickT hS rfl rfl) ?_
 refine eA 51 rfl krQ (fun _ _ _ h => h) hR0 rfl (fun _ hS => Yld.assign hS rfl) ?_
 intro aa hS
 refine wpAnyH_done krQ ?_ _; clear hR0
 refine hK585 _ _ ?_
 refine wp_ret ?_
 repeat first | with_reducible refine thenR ?_ | with_reducible refine blockR ?_ | with_reducible refine scopeR ?_
 refine ret1 (fn := Try.f11) (e := .ret) (.inl rfl) Try.results11 hS hR ⟨_, (.tmp rfl), ?_⟩
 exact ⟨rfl, (hR.sub exQ)⟩
end Go.Proofs.Ythhndmlfgjcgpaa.Sx
