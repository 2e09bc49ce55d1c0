/-
  
-/
import Derived.Test.YtmcfmhiadlkglaaTrF
import Derived.Test.YtmcfmhiadlkglaaPc
namespace Go.Proofs.Ytmcfmhiadlkglaa.Sx
open Go
set_option linter.unusedVariables false
set_option linter.unusedSimpArgs false

theorem bld34_0_1_2_3_4 (x0 : Int) (x1 : Int) (x2 : Int) (x3 : Int) (x4 : Int) (w : World) : (Instr.build 34 [(0, .int .u8 x0), (1, .int .u32 x1), (2, .int .u32 x2), (3, .int .u16 x3), (4, .int .u16 x4)].toArray).run Try.prog w = .ok (.agg [.int .u8 x0, .int .u32 x1, .int .u32 x2, .int .u16 x3, .int .u16 x4].toArray) w := by kernel_rfl
theorem bld34_1 (x1 : Int) (w : World) : (Instr.build 34 [(1, .int .u32 x1)].toArray).run Try.prog w = .ok (.agg [.int .u8 0, .int .u32 x1, .int .u32 0, .int .u16 0, .int .u16 0].toArray) w := by kernel_rfl
theorem bls73_26_0_1_2_3_4_5_6_7_8_9_10_11_12_13_14_15_16_17_18_19_20_21_22_23_24_25 (x0 : Int) (x1 : Int) (x2 : Int) (x3 : Int) (x4 : Int) (x5 : Int) (x6 : Int) (x7 : Int) (x8 : Int) (x9 : Int) (x10 : Int) (x11 : Int) (x12 : Int) (x13 : Int) (x14 : Int) (x15 : Int) (x16 : Int) (x17 : Int) (x18 : Int) (x19 : Int) (x20 : Int) (x21 : Int) (x22 : Int) (x23 : Int) (x24 : Int) (x25 : Int) (w : World) : (Instr.buildSlice 73 26 [(0, .int .u8 x0), (1, .int .u8 x1), (2, .int .u8 x2), (3, .int .u8 x3), (4, .int .u8 x4), (5, .int .u8 x5), (6, .int .u8 x6), (7, .int .u8 x7), (8, .int .u8 x8), (9, .int .u8 x9), (10, .int .u8 x10), (11, .int .u8 x11), (12, .int .u8 x12), (13, .int .u8 x13), (14, .int .u8 x14), (15, .int .u8 x15), (16, .int .u8 x16), (17, .int .u8 x17), (18, .int .u8 x18), (19, .int .u8 x19), (20, .int .u8 x20), (21, .int .u8 x21), (22, .int .u8 x22), (23, .int .u8 x23), (24, .int .u8 x24), (25, .int .u8 x25)].toArray).run Try.prog w = .ok (.slice (some ⟨w.heap.size, 0, none⟩) 26 26) (w.alloc (.cells ([.int .u8 x0, .int .u8 x1, .int .u8 x2, .int .u8 x3, .int .u8 x4, .int .u8 x5, .int .u8 x6, .int .u8 x7, .int .u8 x8, .int .u8 x9, .int .u8 x10, .int .u8 x11, .int .u8 x12, .int .u8 x13, .int .u8 x14, .int .u8 x15, .int .u8 x16, .int .u8 x17, .int .u8 x18, .int .u8 x19, .int .u8 x20, .int .u8 x21, .int .u8 x22, .int .u8 x23, .int .u8 x24, .int .u8 x25] : List Value).toArray 5)) := by kernel_rfl

theorem Nodes_okA {K : List (Ky × Int)} {most : Int} {b : Nat} {l : List HP} {w : World} (hR : Sep (trieA 69 79 3 b K most :: l) w) : CallR Try.prog 19 [.pointer (some ⟨b, 0, none⟩)] w (fun v w' => v = .int .i64 (nodesOf K : Int) ∧ Sep (trieA 69 79 3 b K most :: l) w') := by
  exact CallR.mono (TNodes_ok hR fun T h => Nat.le_trans h.nb (by decide)) fun v w' ⟨T, h, h1, h2⟩ => ⟨by rw [h1]; have := h.count; congr 1; omega, h2⟩
def exK : Ky := (17, 167772161, 167772162, 53, 4660)
def exK2 : Ky := (17, 167772161, 167772162, 53, 4661)
def kA : Ky := (0, 167772160, 0, 0, 0)
def kB : Ky := (0, 3232235521, 0, 0, 0)
def exT : List Int := [0, 10, 0, 0, 0, 0, 0, 1, 0, 10, 0, 0, 0, 0, 0, 2, 1, 1, 0, 0, 3, 5, 1, 2, 3, 4]
def K1 : List (Ky × Int) := [(exK, -5)]
def K2 : List (Ky × Int) := [(exK, -5), (exK2, 7)]
theorem wfEx : WfK exK := by constructor <;> decide
theorem wfEx2 : WfK exK2 := by constructor <;> decide
theorem wfA : WfK kA := by constructor <;> decide
theorem wfB : WfK kB := by constructor <;> decide
theorem exT_len : exT.length = 26 := rfl
theorem ex_dig0 : (List.range 26).all (fun j => decide (exT[j]? = some (digI exK (j : Int)))) = true := by decide +kernel
theorem ex_dig {j : Nat} (h : j < exT.length) : digI exK (j : Int) = exT[j] := by
  have h1 := List.all_eq_true.1 ex_dig0 j (by rw [List.mem_range]; rw [exT_len] at h; exact h)
  have h2 := of_decide_eq_true h1
  rw [List.getElem?_eq_getElem h] at h2
  exact (Option.some.inj h2).symm
theorem f1 : putE [] exK 2 = 0 := by decide +kernel
theorem f1s : putK [] exK (-5) 2 = K1 := by decide +kernel
theorem f2 : putE K1 exK2 2 = 0 := by decide +kernel
theorem f2s : putK K1 exK2 7 2 = K2 := by decide +kernel
theorem f3 : putE K2 (0, 0, 0, 0, 0) 2 = 4 := by decide +kernel
theorem f3s : putK K2 (0, 0, 0, 0, 0) 0 2 = K2 := by decide +kernel
theorem f4 : (nodesOf K1 : Int) = 27 := by decide +kernel
theorem f5 : (nodesOf K2 : Int) = 28 := by decide +kernel
theorem f6 : findV K2 exK = some (-5) := by decide +kernel
theorem f7 : cK K2 ((dl exK).take (25 : Int).toNat) = 2 := by decide +kernel
theorem f8 : cK K2 ((dl exK).take (26 : Int).toNat) = 1 := by decide +kernel
theorem f9 : findN (cK K2) (dl kA) 26 = 8 := by decide +kernel
theorem f10 : findN (cK K2) (dl kB) 26 = 1 := by decide +kernel
theorem f11 : putE K2 exK2 2 = 150 := by decide +kernel
set_option maxRecDepth 20000 in
theorem Example_ok {l : List HP} {w : World} (hR : Sep l w) : CallR Try.prog 15 ([] : List Value) w (fun v w' => v = vK exK ∧ Sep l w') := by
  refine enter Try.func15 rfl Try.ntmps15 (Nat.le_of_ble_eq_true rfl) ?_; intro aa hS
  refine wp_seq_k ?_; intro K121 hK121
  refine wp_region_lit ?_
  refine sB (Balloc hS hR info34 (by rfl) (by rfl) (by decide) ?_); clear hS hR; intro aa ww bb0 hS hR
  refine wpList_nil ?_
  refine hK121 _ _ ?_
  refine wp_seq_k ?_; intro K122 hK122
  refine wp_region_lit ?_
  refine sA hS hR (Yld.build hS rfl (bld34_0_1_2_3_4 _ _ _ _ _)) (by decide) ?_; clear hS; intro aa hS
  refine sB (Bstore hS hR rfl rfl (by rfl) info34 (by rfl) pkQ (by rfl) (Nat.le_of_ble_eq_true rfl) ?_); clear hR; intro ww hR
  refine wpList_nil ?_
  refine hK122 _ _ ?_
  refine wp_ret ?_
  repeat (first | with_reducible refine thenR ?_ | with_reducible refine blockR ?_ | with_reducible refine scopeR ?_)
  refine ret1 (fn := Try.f15) (e := .ret) (.inl rfl) Try.results15 hS hR ⟨_, (.agg rfl Try.underlying34 rfl info34 (Rds.cons (Rd.blk pkQ (by rfl)) (Rds.cons (Rd.blk pkQ (by rfl)) (Rds.cons (Rd.blk pkQ (by rfl)) (Rds.cons (Rd.blk pkQ (by rfl)) (Rds.cons (Rd.blk pkQ (by rfl)) (Rds.nil)))))) (by rfl)), ?_⟩
  exact ⟨rfl, (hR.sub exQ)⟩
set_option maxHeartbeats 4000000 in
set_option maxRecDepth 20000 in
theorem awake_ok {l : List HP} {w : World} (hR : Sep l w) : CallR Try.prog 17 ([] : List Value) w (fun v w' => v = .bool true ∧ Sep l w') := by
  refine enter Try.func17 rfl Try.ntmps17 (Nat.le_of_ble_eq_true rfl) ?_; intro aa hS
  refine wp_seq_k ?_; intro K123 hK123
  refine wp_region_lit ?_
  refine sA hS hR (Yld.assign hS rfl) (by decide) ?_; clear hS; intro aa hS
  refine wpList_nil ?_
  refine hK123 _ _ ?_
  refine wp_seq_k ?_; intro K124 hK124
  refine wp_region_lit ?_
  refine sB (Bcall hS rfl Try.call11 (TNew_ok hR (by omega)) (by decide) ?_); clear hS; intro aa ww vv hS hp
  clear hR
  obtain ⟨b, rfl, hR⟩ := hp
  refine sA hS hR (Yld.move hS rfl) (by decide) ?_; clear hS; intro aa hS
  refine sA hS hR (Yld.extract hS rfl rfl) (by decide) ?_; clear hS; intro aa hS
  refine sA hS hR (Yld.extract hS rfl rfl) (by decide) ?_; clear hS; intro aa hS
  refine sA hS hR (Yld.assign hS rfl) (by decide) ?_; clear hS; intro aa hS
  refine sA hS hR (Yld.assign hS rfl) (by decide) ?_; clear hS; intro aa hS
  refine wpList_nil ?_
  refine hK124 _ _ ?_
  refine wp_seq_k ?_; intro K125 hK125
  refine wp_seq_k ?_; intro K126 hK126
  refine wp_region_lit ?_
  refine sA hS hR (Yld.move hS rfl) (by decide) ?_; clear hS; intro aa hS
  refine sA hS hR (Yld.neq hS rfl rfl) (by decide) ?_; clear hS; intro aa hS
  replace hS := hS.sayB (t := 18) false rfl (by simp)
  refine sA hS hR (Yld.move hS rfl) (by decide) ?_; clear hS; intro aa hS
  refine sAg hS hR rfl rfl (Yld.move hS rfl) (by decide) ?_; clear hS; intro aa hS
  refine sAg hS hR rfl rfl (Yld.eqlNil hS rfl rfl Try.underlying26) (by decide) ?_; clear hS; intro aa hS
  replace hS := hS.sayB (t := 21) false rfl (by rfl)
  refine sA hS hR (Yld.pickF hS rfl rfl) (by decide) ?_; clear hS; intro aa hS
  refine wpList_nil ?_
  refine hK126 _ _ ?_
  refine condF hS rfl ?_
  refine wp_skip ?_
  refine hK125 _ _ ?_
  refine wp_seq_k ?_; intro K127 hK127
  refine wp_region_lit ?_
  refine sB (Bcall hS rfl Try.call15 (Example_ok hR) (by decide) ?_); clear hS; intro aa ww vv hS hp
  clear hR
  obtain ⟨rfl, hR⟩ := hp
  refine sB (Balloc hS hR info34 (by rfl) (by rfl) (by decide) ?_); clear hS hR; intro aa ww bb3 hS hR
  refine sB (Bstore hS hR rfl rfl (by rfl) info34 (by rfl) pkQ (by rfl) (Nat.le_of_ble_eq_true rfl) ?_); clear hR; intro ww hR
  refine wpList_nil ?_
  refine hK127 _ _ ?_
  refine wp_seq_k ?_; intro K128 hK128
  refine wp_seq_k ?_; intro K129 hK129
  refine wp_region_lit ?_
  refine sB (BbuildSlice hS hR rfl (bls73_26_0_1_2_3_4_5_6_7_8_9_10_11_12_13_14_15_16_17_18_19_20_21_22_23_24_25 _ _ _ _ _ _ _ _ _ _ _ _ _ _ _ _ _ _ _ _ _ _ _ _ _ _) (by decide) ?_); clear hS hR; intro aa ww bb24 hS hR
  replace hR := hR.pk (r := blk bb24 _ _) pkQ
  replace hR := Sep.toRecs (m := 26) (sz := 1) (enc := eB) exT hR rfl (by intro _; rfl) rfl
  refine sA hS hR (Yld.len hS rfl Try.underlying73) (by decide) ?_; clear hS; intro aa hS
  refine sA hS hR (Yld.move hS rfl) (by decide) ?_; clear hS; intro aa hS
  refine wpList_nil ?_
  refine hK129 _ _ ?_
  refine wp_block ?_
  refine loopI (X := Nat) [(1, _), (3, _), (24, _), (25, _)] (fun x => [(26, .int .i64 (x : Int))]) (fun x => []) _ (fun x => x ≤ 26) (fun x => 26 - x) 0 (Nat.zero_le _) (hS.le (Le.cons rfl (Le.nilapp (Le.cons rfl (Le.cons rfl (Le.cons rfl (Le.cons rfl (Le.nil _)))))))) hR ?_
  clear hS hR; rintro j aa ww hI hS hR; dsimp only [List.cons_append, List.nil_append] at hI hS hR
  refine wp_seq_k ?_; intro K131 hK131
  refine wp_region_lit ?_
  refine sA hS hR (Yld.lss hS rfl rfl) (by decide) ?_; clear hS; intro aa hS
  refine wpList_nil ?_
  refine hK131 _ _ ?_
  refine wp_seq_k ?_; intro K132 hK132
  refine hS.splitB (t := 27) rfl ?_ ?_ <;> clear hS
  · intro hg hS
    refine condT hS rfl ?_
    refine wp_skip ?_
    refine hK132 _ _ ?_
    refine wp_seq_k ?_; intro K133 hK133
    refine wp_block ?_
    refine wp_seq_k ?_; intro K134 hK134
    refine wp_region_lit ?_
    refine sA hS hR (Yld.move hS rfl) (by decide) ?_; clear hS; intro aa hS
    refine sA hS hR ((by first | exact Yld.indexL (sz := 1) _ hS rfl rfl Try.underlying73 info5 pkQ rfl rfl (by omega) | exact Yld.indexB (sz := 1) _ hS rfl rfl Try.underlying73 info5 rfl rfl (by omega) | exact Yld.indexSlice hS rfl rfl Try.underlying73 info5 (by omega) (by omega))) (by decide) ?_; clear hS; intro aa hS
    refine sA hS hR (Yld.load1 hS rfl Try.underlying5 rfl (by first | exact Rd.blk pkQ (by rfl) | exact Rd.rec pkQ (by intro _; rfl) (by (rw [exT_len]; omega)) rfl | exact Rd.rec0 pkQ (by intro _; rfl) (by (rw [exT_len]; omega)) rfl | exact Rd.flatJ pkQ (by intro _; rfl) (by (rw [exT_len]; omega)) rfl | exact Rd.flat0 pkQ (by intro _; rfl) (by (rw [exT_len]; omega)) rfl)) (by decide) ?_; clear hS; intro aa hS
    refine sA hS hR (Yld.assign hS rfl) (by decide) ?_; clear hS; intro aa hS
    refine sA hS hR (Yld.assign hS rfl) (by decide) ?_; clear hS; intro aa hS
    refine wpList_nil ?_
    refine hK134 _ _ ?_
    refine wp_seq_k ?_; intro K135 hK135
    refine wp_region_lit ?_
    refine sA hS hR (Yld.loadAgg hS rfl Try.underlying34 rfl info34 (by first | exact Rds.cons (Rd.blk pkQ (by rfl)) (Rds.cons (Rd.blk pkQ (by rfl)) (Rds.cons (Rd.blk pkQ (by rfl)) (Rds.cons (Rd.blk pkQ (by rfl)) (Rds.cons (Rd.blk pkQ (by rfl)) (Rds.nil))))) | exact Rds.rec pkQ (by intro _; rfl) (by (rw [exT_len]; omega)) | exact Rds.flat1 pkQ (by intro _; rfl) (by (rw [exT_len]; omega))) (by rfl)) (by decide) ?_; clear hS; intro aa hS
    refine sA hS hR (Yld.move hS rfl) (by decide) ?_; clear hS; intro aa hS
    refine sB (Bcall hS rfl Try.call20 (Digit_ok (k := exK) hR wfEx) (by decide) ?_); clear hS; intro aa ww vv hS hp
    clear hR
    obtain ⟨rfl, hR⟩ := hp
    refine sA hS hR (Yld.move hS rfl) (by decide) ?_; clear hS; intro aa hS
    refine sA hS hR (Yld.neq hS rfl rfl) (by decide) ?_; clear hS; intro aa hS
    replace hS := hS.sayB (t := 35) false rfl (by exact decide_eq_false (fun h => h (ex_dig _)))
    refine wpList_nil ?_
    refine hK135 _ _ ?_
    refine condF hS rfl ?_
    refine wp_skip ?_
    refine hK133 _ _ ?_
    refine wp_region_lit ?_
    refine sA hS hR ((by first | exact Yld.add64 hS rfl rfl (by omega) | exact Yld.add hS rfl rfl)) (by decide) ?_; clear hS; intro aa hS
    refine sA hS hR (Yld.move hS rfl) (by decide) ?_; clear hS; intro aa hS
    refine wpList_nil ?_
    
    refine ⟨j + 1, ?_, ?_, hS.le (Le.cons rfl (Le.nilapp (Le.cons rfl (Le.cons rfl (Le.cons rfl (Le.cons rfl (Le.nil _))))))), hR.sub (Ex.nilapp exQ)⟩
    · omega
    · omega
  · intro hg hS
    refine condF hS rfl ?_
    refine wp_exit ?_
    refine hK128 _ _ ?_
    refine wp_seq_k ?_; intro K136 hK136
    refine wp_region_lit ?_
    refine sA hS hR (Yld.move hS rfl) (by decide) ?_; clear hS; intro aa hS
    refine sA hS hR (Yld.loadAgg hS rfl Try.underlying34 rfl info34 (by first | exact Rds.cons (Rd.blk pkQ (by rfl)) (Rds.cons (Rd.blk pkQ (by rfl)) (Rds.cons (Rd.blk pkQ (by rfl)) (Rds.cons (Rd.blk pkQ (by rfl)) (Rds.cons (Rd.blk pkQ (by rfl)) (Rds.nil))))) | exact Rds.rec pkQ (by intro _; rfl) (by (rw [exT_len]; omega)) | exact Rds.flat1 pkQ (by intro _; rfl) (by (rw [exT_len]; omega))) (by rfl)) (by decide) ?_; clear hS; intro aa hS
    refine sB (Bcall hS rfl Try.call12 (Put_ok (k := exK) (vx := -5) (hR.pk (r := trieA 69 79 3 _ _ _) pkQ) wfEx) (by decide) ?_); clear hS; intro aa ww vv hS hp
    clear hR
    obtain ⟨rfl, hR⟩ := hp
    rw [f1] at hS
    rw [f1s] at hR
    refine sA hS hR (Yld.move hS rfl) (by decide) ?_; clear hS; intro aa hS
    refine sB (Bcall hS rfl Try.call19 (Nodes_okA (hR.pk (r := trieA 69 79 3 _ _ _) pkQ)) (by decide) ?_); clear hS; intro aa ww vv hS hp
    clear hR
    obtain ⟨rfl, hR⟩ := hp
    rw [f4] at hS
    refine sA hS hR (Yld.assign hS rfl) (by decide) ?_; clear hS; intro aa hS
    refine sA hS hR (Yld.assign hS rfl) (by decide) ?_; clear hS; intro aa hS
    refine wpList_nil ?_
    refine hK136 _ _ ?_
    refine wp_seq_k ?_; intro K137 hK137
    refine wp_region_lit ?_
    refine sA hS hR (Yld.fieldAddr hS rfl 4 Try.underlying34 rfl rfl info32 (by decide)) (by decide) ?_; clear hS; intro aa hS
    refine sA hS hR (Yld.load1 hS rfl Try.underlying32 rfl (by first | exact Rd.blk pkQ (by rfl) | exact Rd.rec pkQ (by intro _; rfl) (by (rw [exT_len]; omega)) rfl | exact Rd.rec0 pkQ (by intro _; rfl) (by (rw [exT_len]; omega)) rfl | exact Rd.flatJ pkQ (by intro _; rfl) (by (rw [exT_len]; omega)) rfl | exact Rd.flat0 pkQ (by intro _; rfl) (by (rw [exT_len]; omega)) rfl)) (by decide) ?_; clear hS; intro aa hS
    refine sA hS hR ((by first | exact Yld.to (Yld.add hS rfl rfl) (congrArg (Value.int .u16) (IntWalk.u16_in _ (by omega))) | exact Yld.add hS rfl rfl)) (by decide) ?_; clear hS; intro aa hS
    replace hS := hS.say (t := 44) (.int .u16 4661) rfl (by rw [show exK.2.2.2.2 + 1 = 4661 from rfl, IntWalk.u16_in _ (by omega)])
    refine sA hS hR (Yld.fieldAddr hS rfl 4 Try.underlying34 rfl rfl info32 (by decide)) (by decide) ?_; clear hS; intro aa hS
    refine sB (Bstore hS hR rfl rfl (by rfl) info32 (by rfl) pkQ (by rfl) (Nat.le_of_ble_eq_true rfl) ?_); clear hR; intro ww hR
    refine wpList_nil ?_
    refine hK137 _ _ ?_
    refine wp_seq_k ?_; intro K138 hK138
    refine wp_region_lit ?_
    refine sA hS hR (Yld.move hS rfl) (by decide) ?_; clear hS; intro aa hS
    refine sA hS hR (Yld.loadAgg hS rfl Try.underlying34 rfl info34 (by first | exact Rds.cons (Rd.blk pkQ (by rfl)) (Rds.cons (Rd.blk pkQ (by rfl)) (Rds.cons (Rd.blk pkQ (by rfl)) (Rds.cons (Rd.blk pkQ (by rfl)) (Rds.cons (Rd.blk pkQ (by rfl)) (Rds.nil))))) | exact Rds.rec pkQ (by intro _; rfl) (by (rw [exT_len]; omega)) | exact Rds.flat1 pkQ (by intro _; rfl) (by (rw [exT_len]; omega))) (by rfl)) (by decide) ?_; clear hS; intro aa hS
    refine sB (Bcall hS rfl Try.call12 (Put_ok (k := exK2) (vx := 7) (hR.pk (r := trieA 69 79 3 _ _ _) pkQ) wfEx2) (by decide) ?_); clear hS; intro aa ww vv hS hp
    clear hR
    obtain ⟨rfl, hR⟩ := hp
    rw [f2] at hS
    rw [f2s] at hR
    refine sA hS hR (Yld.move hS rfl) (by decide) ?_; clear hS; intro aa hS
    refine sB (Bcall hS rfl Try.call19 (Nodes_okA (hR.pk (r := trieA 69 79 3 _ _ _) pkQ)) (by decide) ?_); clear hS; intro aa ww vv hS hp
    clear hR
    obtain ⟨rfl, hR⟩ := hp
    rw [f5] at hS
    refine sA hS hR (Yld.assign hS rfl) (by decide) ?_; clear hS; intro aa hS
    refine sA hS hR (Yld.assign hS rfl) (by decide) ?_; clear hS; intro aa hS
    refine wpList_nil ?_
    refine hK138 _ _ ?_
    refine wp_seq_k ?_; intro K139 hK139
    refine wp_region_lit ?_
    refine sA hS hR (Yld.move hS rfl) (by decide) ?_; clear hS; intro aa hS
    refine sB (Bcall hS rfl Try.call15 (Example_ok hR) (by decide) ?_); clear hS; intro aa ww vv hS hp
    clear hR
    obtain ⟨rfl, hR⟩ := hp
    refine sB (Bcall hS rfl Try.call16 (Get_ok (k := exK) (hR.pk (r := trieA 69 79 3 _ _ _) pkQ) wfEx) (by decide) ?_); clear hS; intro aa ww vv hS hp
    clear hR
    obtain ⟨rfl, hR⟩ := hp
    rw [f6] at hS; dsimp only [Option.getD, Option.isSome] at hS
    refine sA hS hR (Yld.move hS rfl) (by decide) ?_; clear hS; intro aa hS
    refine sA hS hR (Yld.extract hS rfl rfl) (by decide) ?_; clear hS; intro aa hS
    refine sA hS hR (Yld.extract hS rfl rfl) (by decide) ?_; clear hS; intro aa hS
    refine sA hS hR (Yld.assign hS rfl) (by decide) ?_; clear hS; intro aa hS
    refine sA hS hR (Yld.assign hS rfl) (by decide) ?_; clear hS; intro aa hS
    refine wpList_nil ?_
    refine hK139 _ _ ?_
    refine wp_seq_k ?_; intro K140 hK140
    refine wp_region_lit ?_
    refine sA hS hR (Yld.move hS rfl) (by decide) ?_; clear hS; intro aa hS
    refine sA hS hR (Yld.build hS rfl (bld34_)) (by decide) ?_; clear hS; intro aa hS
    refine sB (Bcall hS rfl Try.call12 (Put_ok (k := (0, 0, 0, 0, 0)) (vx := 0) (hR.pk (r := trieA 69 79 3 _ _ _) pkQ) wfk0) (by decide) ?_); clear hS; intro aa ww vv hS hp
    clear hR
    obtain ⟨rfl, hR⟩ := hp
    rw [f3] at hS
    rw [f3s] at hR
    refine sA hS hR (Yld.assign hS rfl) (by decide) ?_; clear hS; intro aa hS
    refine wpList_nil ?_
    refine hK140 _ _ ?_
    refine wp_seq_k ?_; intro K141 hK141
    refine wp_region_lit ?_
    refine sA hS hR (Yld.move hS rfl) (by decide) ?_; clear hS; intro aa hS
    refine sA hS hR (Yld.move hS rfl) (by decide) ?_; clear hS; intro aa hS
    refine sA hS hR ((by first | exact Yld.add64 hS rfl rfl (by omega) | exact Yld.add hS rfl rfl)) (by decide) ?_; clear hS; intro aa hS
    refine sA hS hR (Yld.eql hS rfl rfl) (by decide) ?_; clear hS; intro aa hS
    replace hS := hS.sayB (t := 63) true rfl (by decide)
    refine sA hS hR (Yld.move hS rfl) (by decide) ?_; clear hS; intro aa hS
    refine sAg hS hR rfl rfl (Yld.move hS rfl) (by decide) ?_; clear hS; intro aa hS
    refine sAg hS hR rfl rfl (Yld.eql hS rfl rfl) (by decide) ?_; clear hS; intro aa hS
    replace hS := hS.sayB (t := 66) true rfl (by decide)
    refine sA hS hR (Yld.pickT hS rfl rfl) (by decide) ?_; clear hS; intro aa hS
    refine sA hS hR (Yld.move hS rfl) (by decide) ?_; clear hS; intro aa hS
    refine sAg hS hR rfl rfl (Yld.move hS rfl) (by decide) ?_; clear hS; intro aa hS
    refine sAg hS hR rfl rfl (Yld.eql hS rfl rfl) (by decide) ?_; clear hS; intro aa hS
    replace hS := hS.sayB (t := 70) true rfl (by decide)
    refine sA hS hR (Yld.pickT hS rfl rfl) (by decide) ?_; clear hS; intro aa hS
    refine sA hS hR (Yld.move hS rfl) (by decide) ?_; clear hS; intro aa hS
    refine sAg hS hR rfl rfl (Yld.move hS rfl) (by decide) ?_; clear hS; intro aa hS
    refine sAg hS hR rfl rfl (Yld.eql hS rfl rfl) (by decide) ?_; clear hS; intro aa hS
    replace hS := hS.sayB (t := 74) true rfl (by decide)
    refine sA hS hR (Yld.pickT hS rfl rfl) (by decide) ?_; clear hS; intro aa hS
    refine sA hS hR (Yld.move hS rfl) (by decide) ?_; clear hS; intro aa hS
    refine sAg hS hR rfl rfl (Yld.move hS rfl) (by decide) ?_; clear hS; intro aa hS
    replace hS := hS.sayB (t := 77) true rfl (by rfl)
    refine sA hS hR (Yld.pickT hS rfl rfl) (by decide) ?_; clear hS; intro aa hS
    refine sA hS hR (Yld.move hS rfl) (by decide) ?_; clear hS; intro aa hS
    refine sAg hS hR rfl rfl (Yld.move hS rfl) (by decide) ?_; clear hS; intro aa hS
    refine sAg hS hR rfl rfl (Yld.eql hS rfl rfl) (by decide) ?_; clear hS; intro aa hS
    replace hS := hS.sayB (t := 81) true rfl (by decide)
    refine sA hS hR (Yld.pickT hS rfl rfl) (by decide) ?_; clear hS; intro aa hS
    refine sA hS hR (Yld.move hS rfl) (by decide) ?_; clear hS; intro aa hS
    refine sAg hS hR rfl rfl (Yld.move hS rfl) (by decide) ?_; clear hS; intro aa hS
    refine sBg hS rfl rfl (Bcall hS rfl Try.call15 (Example_ok hR) (by decide) ?_); clear hS; intro aa ww vv hS hp
    clear hR
    obtain ⟨rfl, hR⟩ := hp
    refine sBg hS rfl rfl (Bcall hS rfl Try.call23 (TCount_ok (k := exK) (n := 25) (hR.pk (r := trieA 69 79 3 _ _ _) pkQ) wfEx) (by decide) ?_); clear hS; intro aa ww vv hS hp
    clear hR
    obtain ⟨rfl, hR⟩ := hp
    rw [if_pos ⟨by omega, by omega⟩, f7] at hS
    refine sAg hS hR rfl rfl (Yld.eql hS rfl rfl) (by decide) ?_; clear hS; intro aa hS
    replace hS := hS.sayB (t := 87) true rfl (by decide)
    refine sA hS hR (Yld.pickT hS rfl rfl) (by decide) ?_; clear hS; intro aa hS
    refine sA hS hR (Yld.move hS rfl) (by decide) ?_; clear hS; intro aa hS
    refine sAg hS hR rfl rfl (Yld.move hS rfl) (by decide) ?_; clear hS; intro aa hS
    refine sBg hS rfl rfl (Bcall hS rfl Try.call15 (Example_ok hR) (by decide) ?_); clear hS; intro aa ww vv hS hp
    clear hR
    obtain ⟨rfl, hR⟩ := hp
    refine sBg hS rfl rfl (Bcall hS rfl Try.call23 (TCount_ok (k := exK) (n := 26) (hR.pk (r := trieA 69 79 3 _ _ _) pkQ) wfEx) (by decide) ?_); clear hS; intro aa ww vv hS hp
    clear hR
    obtain ⟨rfl, hR⟩ := hp
    rw [if_pos ⟨by omega, by omega⟩, f8] at hS
    refine sAg hS hR rfl rfl (Yld.eql hS rfl rfl) (by decide) ?_; clear hS; intro aa hS
    replace hS := hS.sayB (t := 93) true rfl (by decide)
    refine sA hS hR (Yld.pickT hS rfl rfl) (by decide) ?_; clear hS; intro aa hS
    refine sA hS hR (Yld.move hS rfl) (by decide) ?_; clear hS; intro aa hS
    refine sAg hS hR rfl rfl (Yld.move hS rfl) (by decide) ?_; clear hS; intro aa hS
    refine sAg hS hR rfl rfl (Yld.build hS rfl (bld34_1 _)) (by decide) ?_; clear hS; intro aa hS
    refine sBg hS rfl rfl (Bcall hS rfl Try.call31 (TSteps_ok (k := kA) (hR.pk (r := trieA 69 79 3 _ _ _) pkQ) wfA) (by decide) ?_); clear hS; intro aa ww vv hS hp
    clear hR
    obtain ⟨rfl, hR⟩ := hp
    rw [f9] at hS
    refine sAg hS hR rfl rfl (Yld.eql hS rfl rfl) (by decide) ?_; clear hS; intro aa hS
    replace hS := hS.sayB (t := 99) true rfl (by decide)
    refine sA hS hR (Yld.pickT hS rfl rfl) (by decide) ?_; clear hS; intro aa hS
    refine sA hS hR (Yld.move hS rfl) (by decide) ?_; clear hS; intro aa hS
    refine sAg hS hR rfl rfl (Yld.move hS rfl) (by decide) ?_; clear hS; intro aa hS
    refine sAg hS hR rfl rfl (Yld.build hS rfl (bld34_1 _)) (by decide) ?_; clear hS; intro aa hS
    refine sBg hS rfl rfl (Bcall hS rfl Try.call31 (TSteps_ok (k := kB) (hR.pk (r := trieA 69 79 3 _ _ _) pkQ) wfB) (by decide) ?_); clear hS; intro aa ww vv hS hp
    clear hR
    obtain ⟨rfl, hR⟩ := hp
    rw [f10] at hS
    refine sAg hS hR rfl rfl (Yld.eql hS rfl rfl) (by decide) ?_; clear hS; intro aa hS
    replace hS := hS.sayB (t := 105) true rfl (by decide)
    refine sA hS hR (Yld.pickT hS rfl rfl) (by decide) ?_; clear hS; intro aa hS
    refine sA hS hR (Yld.move hS rfl) (by decide) ?_; clear hS; intro aa hS
    refine sAg hS hR rfl rfl (Yld.move hS rfl) (by decide) ?_; clear hS; intro aa hS
    refine sAg hS hR rfl rfl (Yld.loadAgg hS rfl Try.underlying34 rfl info34 (by first | exact Rds.cons (Rd.blk pkQ (by rfl)) (Rds.cons (Rd.blk pkQ (by rfl)) (Rds.cons (Rd.blk pkQ (by rfl)) (Rds.cons (Rd.blk pkQ (by rfl)) (Rds.cons (Rd.blk pkQ (by rfl)) (Rds.nil))))) | exact Rds.rec pkQ (by intro _; rfl) (by (rw [exT_len]; omega)) | exact Rds.flat1 pkQ (by intro _; rfl) (by (rw [exT_len]; omega))) (by rfl)) (by decide) ?_; clear hS; intro aa hS
    refine sBg hS rfl rfl (Bcall hS rfl Try.call12 (Put_ok (k := exK2) (vx := 1) (hR.pk (r := trieA 69 79 3 _ _ _) pkQ) wfEx2) (by decide) ?_); clear hS; intro aa ww vv hS hp
    clear hR
    obtain ⟨rfl, hR⟩ := hp
    rw [f11] at hS
    refine sAg hS hR rfl rfl (Yld.eql hS rfl rfl) (by decide) ?_; clear hS; intro aa hS
    replace hS := hS.sayB (t := 111) true rfl (by decide)
    refine sA hS hR (Yld.pickT hS rfl rfl) (by decide) ?_; clear hS; intro aa hS
    refine sA hS hR (Yld.assign hS rfl) (by decide) ?_; clear hS; intro aa hS
    refine wpList_nil ?_
    refine hK141 _ _ ?_
    refine wp_ret ?_
    repeat (first | with_reducible refine thenR ?_ | with_reducible refine blockR ?_ | with_reducible refine scopeR ?_)
    refine ret1 (fn := Try.f17) (e := .ret) (.inl rfl) Try.results17 hS hR ⟨_, (.tmp rfl), ?_⟩
    exact ⟨rfl, (hR.sub exQ)⟩
end Go.Proofs.Ytmcfmhiadlkglaa.Sx
