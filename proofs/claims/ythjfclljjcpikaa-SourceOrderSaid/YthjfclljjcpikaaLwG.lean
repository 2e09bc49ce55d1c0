/-
 
-/
import Derived.Test.YthjfclljjcpikaaLwB
import Derived.Test.YthjfclljjcpikaaPh
import Derived.Test.YthjfclljjcpikaaPd
namespace Go.Proofs.Ythjfclljjcpikaa.Sx
open Go
set_option linter.unusedVariables false
set_option linter.unusedSimpArgs false

theorem info24 : Try.prog.info? 24 = some Try.t24 := by kernel_rfl
theorem info66 : Try.prog.info? 66 = some Try.t66 := by kernel_rfl
theorem bld30_0_1_2 (x0 : Int) (x1 : Int) (x2 : Int) (w : World) : (Instr.build 30 [(0, .int .u8 x0), (1, .int .u32 x1), (2, .int .i64 x2)].toArray).run Try.prog w = .ok (.agg [.int .u8 x0, .int .u32 x1, .int .i64 x2].toArray) w := by kernel_rfl
theorem bld51_  (w : World) : (Instr.build 51 [].toArray).run Try.prog w = .ok (.agg [.int .i64 0, .slice none 0 0, .pointer none, .pointer none, .pointer none].toArray) w := by kernel_rfl
theorem bls22_4_0_1_2_3 (x0_0 : Int) (x0_1 : Int) (x0_2 : Int) (x1_0 : Int) (x1_1 : Int) (x1_2 : Int) (x2_0 : Int) (x2_1 : Int) (x2_2 : Int) (x3_0 : Int) (x3_1 : Int) (x3_2 : Int) (w : World) : (Instr.buildSlice 22 4 [(0, .agg [.int .u8 x0_0, .int .u32 x0_1, .int .i64 x0_2].toArray), (1, .agg [.int .u8 x1_0, .int .u32 x1_1, .int .i64 x1_2].toArray), (2, .agg [.int .u8 x2_0, .int .u32 x2_1, .int .i64 x2_2].toArray), (3, .agg [.int .u8 x3_0, .int .u32 x3_1, .int .i64 x3_2].toArray)].toArray).run Try.prog w = .ok (.slice (some ⟨w.heap.size, 0, none⟩) 4 4) (w.alloc (.cells ([.int .u8 x0_0, .int .u32 x0_1, .int .i64 x0_2, .int .u8 x1_0, .int .u32 x1_1, .int .i64 x1_2, .int .u8 x2_0, .int .u32 x2_1, .int .i64 x2_2, .int .u8 x3_0, .int .u32 x3_1, .int .i64 x3_2] : List Value).toArray 30)) := by kernel_rfl
theorem bls22_5_0_1_2_3_4 (x0_0 : Int) (x0_1 : Int) (x0_2 : Int) (x1_0 : Int) (x1_1 : Int) (x1_2 : Int) (x2_0 : Int) (x2_1 : Int) (x2_2 : Int) (x3_0 : Int) (x3_1 : Int) (x3_2 : Int) (x4_0 : Int) (x4_1 : Int) (x4_2 : Int) (w : World) : (Instr.buildSlice 22 5 [(0, .agg [.int .u8 x0_0, .int .u32 x0_1, .int .i64 x0_2].toArray), (1, .agg [.int .u8 x1_0, .int .u32 x1_1, .int .i64 x1_2].toArray), (2, .agg [.int .u8 x2_0, .int .u32 x2_1, .int .i64 x2_2].toArray), (3, .agg [.int .u8 x3_0, .int .u32 x3_1, .int .i64 x3_2].toArray), (4, .agg [.int .u8 x4_0, .int .u32 x4_1, .int .i64 x4_2].toArray)].toArray).run Try.prog w = .ok (.slice (some ⟨w.heap.size, 0, none⟩) 5 5) (w.alloc (.cells ([.int .u8 x0_0, .int .u32 x0_1, .int .i64 x0_2, .int .u8 x1_0, .int .u32 x1_1, .int .i64 x1_2, .int .u8 x2_0, .int .u32 x2_1, .int .i64 x2_2, .int .u8 x3_0, .int .u32 x3_1, .int .i64 x3_2, .int .u8 x4_0, .int .u32 x4_1, .int .i64 x4_2] : List Value).toArray 30)) := by kernel_rfl
theorem bls22_6_0_1_2_3_4_5 (x0_0 : Int) (x0_1 : Int) (x0_2 : Int) (x1_0 : Int) (x1_1 : Int) (x1_2 : Int) (x2_0 : Int) (x2_1 : Int) (x2_2 : Int) (x3_0 : Int) (x3_1 : Int) (x3_2 : Int) (x4_0 : Int) (x4_1 : Int) (x4_2 : Int) (x5_0 : Int) (x5_1 : Int) (x5_2 : Int) (w : World) : (Instr.buildSlice 22 6 [(0, .agg [.int .u8 x0_0, .int .u32 x0_1, .int .i64 x0_2].toArray), (1, .agg [.int .u8 x1_0, .int .u32 x1_1, .int .i64 x1_2].toArray), (2, .agg [.int .u8 x2_0, .int .u32 x2_1, .int .i64 x2_2].toArray), (3, .agg [.int .u8 x3_0, .int .u32 x3_1, .int .i64 x3_2].toArray), (4, .agg [.int .u8 x4_0, .int .u32 x4_1, .int .i64 x4_2].toArray), (5, .agg [.int .u8 x5_0, .int .u32 x5_1, .int .i64 x5_2].toArray)].toArray).run Try.prog w = .ok (.slice (some ⟨w.heap.size, 0, none⟩) 6 6) (w.alloc (.cells ([.int .u8 x0_0, .int .u32 x0_1, .int .i64 x0_2, .int .u8 x1_0, .int .u32 x1_1, .int .i64 x1_2, .int .u8 x2_0, .int .u32 x2_1, .int .i64 x2_2, .int .u8 x3_0, .int .u32 x3_1, .int .i64 x3_2, .int .u8 x4_0, .int .u32 x4_1, .int .i64 x4_2, .int .u8 x5_0, .int .u32 x5_1, .int .i64 x5_2] : List Value).toArray 30)) := by kernel_rfl
theorem bls40_14_0_1_2_3_4_5_6_7_8_9_10_11_12_13 (x0 : Int) (x1 : Int) (x2 : Int) (x3 : Int) (x4 : Int) (x5 : Int) (x6 : Int) (x7 : Int) (x8 : Int) (x9 : Int) (x10 : Int) (x11 : Int) (x12 : Int) (x13 : Int) (w : World) : (Instr.buildSlice 40 14 [(0, .int .i64 x0), (1, .int .i64 x1), (2, .int .i64 x2), (3, .int .i64 x3), (4, .int .i64 x4), (5, .int .i64 x5), (6, .int .i64 x6), (7, .int .i64 x7), (8, .int .i64 x8), (9, .int .i64 x9), (10, .int .i64 x10), (11, .int .i64 x11), (12, .int .i64 x12), (13, .int .i64 x13)].toArray).run Try.prog w = .ok (.slice (some ⟨w.heap.size, 0, none⟩) 14 14) (w.alloc (.cells ([.int .i64 x0, .int .i64 x1, .int .i64 x2, .int .i64 x3, .int .i64 x4, .int .i64 x5, .int .i64 x6, .int .i64 x7, .int .i64 x8, .int .i64 x9, .int .i64 x10, .int .i64 x11, .int .i64 x12, .int .i64 x13] : List Value).toArray 3)) := by kernel_rfl
theorem bls52_2_0_1 (x0 : Option Addr) (x1 : Option Addr) (w : World) : (Instr.buildSlice 52 2 [(0, .pointer x0), (1, .pointer x1)].toArray).run Try.prog w = .ok (.slice (some ⟨w.heap.size, 0, none⟩) 2 2) (w.alloc (.cells ([.pointer x0, .pointer x1] : List Value).toArray 24)) := by kernel_rfl

set_option maxRecDepth 20000 in
theorem sod_is {x z : Int} {bz : Nat} {l : List HP} {w : World} (hR : Sep (blk bz [.int .i64 z] 3 :: l) w) : CallR Try.prog 29 [.int .i64 x, .pointer (some ⟨bz, 0, none⟩)] w (fun v w' => v = .bool (decide (x = z)) ∧ Sep (blk bz [.int .i64 z] 3 :: l) w') := by
 refine enter Try.func29 rfl Try.ntmps29 (Nat.le_of_ble_eq_true rfl) ?_; intro aa hS
 refine wp_seq_k ?_; intro K1119 hK1119
 refine wp_region_lit ?_
 refine sA hS hR (Yld.assign hS rfl) (by decide) ?_; clear hS; intro aa hS
 refine wpList_nil ?_
 refine hK1119 _ _ ?_
 refine wp_seq_k ?_; intro K1120 hK1120
 refine wp_region_lit ?_
 refine sA hS hR (Yld.move hS rfl) (by decide) ?_; clear hS; intro aa hS
 refine sA hS hR (Yld.load1 hS rfl Try.underlying3 rfl (by first | exact Rd.blk pkQ (by rfl) | exact Rd.rec pkQ (by intro _; rfl) (by omega) rfl | exact Rd.rec0 pkQ (by intro _; rfl) (by omega) rfl | exact Rd.flatJ pkQ (by intro _; rfl) (by omega) rfl | exact Rd.flat0 pkQ (by intro _; rfl) (by omega) rfl)) (by decide) ?_; clear hS; intro aa hS
 refine sA hS hR (Yld.eql hS rfl rfl) (by decide) ?_; clear hS; intro aa hS
 refine sA hS hR (Yld.assign hS rfl) (by decide) ?_; clear hS; intro aa hS
 refine wpList_nil ?_
 refine hK1120 _ _ ?_
 refine wp_ret ?_
 repeat (first | with_reducible refine thenR ?_ | with_reducible refine blockR ?_ | with_reducible refine scopeR ?_)
 refine ret1 (fn := Try.f29) (e := .ret) (.inl rfl) Try.results29 hS hR ⟨_, (.tmp rfl), ?_⟩
 exact ⟨rfl, (hR.sub exQ)⟩
set_option maxHeartbeats 1000000 in
set_option maxRecDepth 20000 in
theorem sod_idx {xs : List Int} {z : Int} {r : Option Addr} {c bz : Nat} {l : List HP} {w : World} (hx : xs.length ≤ 9000) (hR : Sep (sls r xs.length c 3 1 (xs.flatMap e1) :: blk bz [.int .i64 z] 3 :: l) w) : CallR Try.prog 56 [.slice r xs.length c, .func (.func 29) #[] #[.pointer (some ⟨bz, 0, none⟩)]] w (fun v w' => (((∀ x ∈ xs, x ≠ z) ∧ v = .int .i64 (-1)) ∨ ∃ (k : Nat) (hk : k < xs.length), xs[k] = z ∧ (∀ x ∈ xs.take k, x ≠ z) ∧ v = .int .i64 (k : Int)) ∧ Sep (sls r xs.length c 3 1 (xs.flatMap e1) :: blk bz [.int .i64 z] 3 :: l) w') := by
 refine enter Try.func56 rfl Try.ntmps56 (Nat.le_of_ble_eq_true rfl) ?_; intro aa hS
 refine wp_seq_k ?_; intro K1121 hK1121
 refine wp_region_lit ?_
 refine sA hS hR (Yld.assign hS rfl) (by decide) ?_; clear hS; intro aa hS
 refine wpList_nil ?_
 refine hK1121 _ _ ?_
 refine wp_seq_k ?_; intro K1122 hK1122
 refine wp_seq_k ?_; intro K1123 hK1123
 refine wp_region_lit ?_
 refine sA hS hR (Yld.move hS rfl) (by decide) ?_; clear hS; intro aa hS
 refine sA hS hR (Yld.len hS rfl Try.underlying40) (by decide) ?_; clear hS; intro aa hS
 refine sA hS hR (Yld.move hS rfl) (by decide) ?_; clear hS; intro aa hS
 refine wpList_nil ?_
 refine hK1123 _ _ ?_
 refine wp_block ?_
 refine loopI (X := Nat) [(0, _), (1, _), (7, _)] (fun x => [(8, .int .i64 (x : Int))]) (fun x => []) _ (fun x => x ≤ xs.length ∧ ∀ y ∈ xs.take x, y ≠ z) (fun x => xs.length - x) 0 ⟨Nat.zero_le _, by simp⟩ (hS.le (Le.cons rfl (Le.nilapp (Le.cons rfl (Le.cons rfl (Le.cons rfl (Le.nil _))))))) hR ?_
 clear hS hR; rintro k aa ww hI hS hR; dsimp only [List.cons_append, List.nil_append] at hI hS hR
 refine wp_seq_k ?_; intro K1125 hK1125
 refine wp_region_lit ?_
 refine sA hS hR (Yld.lss hS rfl rfl) (by decide) ?_; clear hS; intro aa hS
 refine wpList_nil ?_
 refine hK1125 _ _ ?_
 refine wp_seq_k ?_; intro K1126 hK1126
 refine hS.splitB (t := 9) rfl ?_ ?_ <;> clear hS
 ·
  intro hg hS
  have hkl : k < xs.length := by omega
  obtain ⟨x0, hx0⟩ : ∃ y : Int, xs[k] = y := ⟨_, rfl⟩
  refine condT hS rfl ?_
  refine wp_skip ?_
  refine hK1126 _ _ ?_
  refine wp_seq_k ?_; intro K1127 hK1127
  refine wp_block ?_
  refine wp_seq_k ?_; intro K1128 hK1128
  refine wp_region_lit ?_
  refine sA hS hR (Yld.move hS rfl) (by decide) ?_; clear hS; intro aa hS
  refine sA hS hR (Yld.assign hS rfl) (by decide) ?_; clear hS; intro aa hS
  refine wpList_nil ?_
  refine hK1128 _ _ ?_
  refine wp_seq_k ?_; intro K1129 hK1129
  refine wp_region_lit ?_
  refine sA hS hR (Yld.move hS rfl) (by decide) ?_; clear hS; intro aa hS
  refine sA hS hR (Yld.move hS rfl) (by decide) ?_; clear hS; intro aa hS
  refine sA hS hR (Yld.move hS rfl) (by decide) ?_; clear hS; intro aa hS
  refine sA hS hR ((by first | exact Yld.indexL (sz := 1) (k) hS rfl rfl Try.underlying40 info3 pkQ rfl (by first | rfl | omega) (by omega) | exact Yld.indexB (sz := 1) (k) hS rfl rfl Try.underlying40 info3 rfl (by first | rfl | omega) (by omega))) (by decide) ?_; clear hS; intro aa hS
  refine sA hS hR (Yld.load1 hS rfl Try.underlying3 rfl (Rd.rec0 (k := k) (xs := xs) (v := .int .i64 x0) pkQ (by intro _; rfl) hkl (by rw [hx0]; rfl))) (by decide) ?_; clear hS; intro aa hS
  refine sB (BcallV (first := []) (caps := [.pointer (some ⟨bz, 0, none⟩)]) hS rfl rfl Try.call29 (sod_is (x := x0) (z := z) (bz := bz) (hR.pk (r := blk bz _ _) pkQ)) (by decide) ?_); clear hS; intro aa ww vv hS hp
  clear hR
  obtain ⟨rfl, hR⟩ := hp
  refine wpList_nil ?_
  refine hK1129 _ _ ?_
  refine hS.splitB (t := 16) rfl ?_ ?_ <;> clear hS
  ·
   intro hg hS
   refine condT hS rfl ?_
   refine wp_seq_k ?_; intro K1130 hK1130
   refine wp_region_lit ?_
   refine sA hS hR (Yld.move hS rfl) (by decide) ?_; clear hS; intro aa hS
   refine sA hS hR (Yld.assign hS rfl) (by decide) ?_; clear hS; intro aa hS
   refine wpList_nil ?_
   refine hK1130 _ _ ?_
   refine wp_ret ?_
   repeat (first | with_reducible refine thenR ?_ | with_reducible refine blockR ?_ | with_reducible refine scopeR ?_)
   refine ret1 (fn := Try.f56) (e := .ret) (.inl rfl) Try.results56 hS hR ⟨_, (.tmp rfl), ?_⟩
   exact ⟨.inr ⟨k, hkl, by rw [hx0]; exact hg, hI.2, rfl⟩, (hR.sub exQ)⟩
  ·
   intro hg hS
   have hnx : ∀ x ∈ xs.take (k + 1), x ≠ z := by
    intro x hx
    rw [List.take_succ_eq_append_getElem hkl] at hx
    rcases List.mem_append.1 hx with hx | hx
    ·
     exact hI.2 x hx
    ·
     simp only [List.mem_singleton] at hx
     rw [hx, hx0]; exact hg
   refine condF hS rfl ?_
   refine wp_skip ?_
   refine hK1127 _ _ ?_
   refine wp_region_lit ?_
   refine sA hS hR ((by first | exact Yld.add64 hS rfl rfl (by omega) | exact Yld.add hS rfl rfl)) (by decide) ?_; clear hS; intro aa hS
   refine sA hS hR (Yld.move hS rfl) (by decide) ?_; clear hS; intro aa hS
   refine wpList_nil ?_
   
   refine ⟨k + 1, ?_, ?_, hS.le (Le.cons rfl (Le.nilapp (Le.cons rfl (Le.cons rfl (Le.cons rfl (Le.nil _)))))), hR.sub (Ex.nilapp exQ)⟩
   ·
    exact ⟨by omega, hnx⟩
   ·
    omega
 ·
  intro hg hS
  have hall := hI.2
  rw [List.take_of_length_le (by omega)] at hall
  refine condF hS rfl ?_
  refine wp_exit ?_
  refine hK1122 _ _ ?_
  refine wp_seq_k ?_; intro K1131 hK1131
  refine wp_region_lit ?_
  refine sA hS hR (Yld.assign hS rfl) (by decide) ?_; clear hS; intro aa hS
  refine wpList_nil ?_
  refine hK1131 _ _ ?_
  refine wp_ret ?_
  repeat (first | with_reducible refine thenR ?_ | with_reducible refine blockR ?_ | with_reducible refine scopeR ?_)
  refine ret1 (fn := Try.f56) (e := .ret) (.inl rfl) Try.results56 hS hR ⟨_, (.tmp rfl), ?_⟩
  exact ⟨.inl ⟨hall, rfl⟩, (hR.sub exQ)⟩
set_option maxHeartbeats 2000000 in
set_option maxRecDepth 20000 in
theorem sod_ok {xs : List Int} {z : Int} {r : Option Addr} {c bz : Nat} {l : List HP} {w : World} (hx : xs.length ≤ 9000) (hR : Sep (sls r xs.length c 3 1 (xs.flatMap e1) :: blk bz [.int .i64 z] 3 :: l) w) : CallR Try.prog 28 [.slice r xs.length c, .func (.func 29) #[] #[.pointer (some ⟨bz, 0, none⟩)]] w (fun v w' => v = .slice r (butZ xs z).length c ∧ Sep (sls r (butZ xs z).length c 3 1 ((butZ xs z).flatMap e1) :: blk bz [.int .i64 z] 3 :: l) w') := by
 refine enter Try.func28 rfl Try.ntmps28 (Nat.le_of_ble_eq_true rfl) ?_; intro aa hS
 have hcp := (hR.pk (r := sls r _ _ _ _ _) pkQ).slsLe.1
 refine wp_seq_k ?_; intro K1132 hK1132
 refine wp_region_lit ?_
 refine sA hS hR (Yld.assign hS rfl) (by decide) ?_; clear hS; intro aa hS
 refine wpList_nil ?_
 refine hK1132 _ _ ?_
 refine wp_seq_k ?_; intro K1133 hK1133
 refine wp_region_lit ?_
 refine sA hS hR (Yld.move hS rfl) (by decide) ?_; clear hS; intro aa hS
 refine sA hS hR (Yld.move hS rfl) (by decide) ?_; clear hS; intro aa hS
 refine sB (Bcall hS rfl Try.call56 (sod_idx hx ((hR.pk (r := blk bz _ _) pkQ).pk (r := sls r _ _ _ _ _) pkQ)) (by decide) ?_); clear hS; intro aa ww vv hS hp
 clear hR
 obtain ⟨hvv, hR⟩ := hp
 by_cases hn : ∀ x ∈ xs, x ≠ z
 ·
  have hall := hn
  obtain rfl : vv = .int .i64 (-1) := by
   rcases hvv with ⟨_, e⟩ | ⟨k, hk, hkz, _, _⟩
   ·
    exact e
   ·
    exact absurd hkz (hn _ (List.getElem_mem hk))
  refine sA hS hR (Yld.assign hS rfl) (by decide) ?_; clear hS; intro aa hS
  refine wpList_nil ?_
  refine hK1133 _ _ ?_
  refine wp_seq_k ?_; intro K1134 hK1134
  refine wp_seq_k ?_; intro K1135 hK1135
  refine wp_region_lit ?_
  refine sA hS hR (Yld.move hS rfl) (by decide) ?_; clear hS; intro aa hS
  refine sA hS hR (Yld.eql hS rfl rfl) (by decide) ?_; clear hS; intro aa hS
  replace hS := hS.sayB (t := 12) true rfl (by exact decide_eq_true rfl)
  refine wpList_nil ?_
  refine hK1135 _ _ ?_
  refine condT hS rfl ?_
  refine wp_seq_k ?_; intro K1136 hK1136
  refine wp_region_lit ?_
  refine sA hS hR (Yld.move hS rfl) (by decide) ?_; clear hS; intro aa hS
  refine sA hS hR (Yld.assign hS rfl) (by decide) ?_; clear hS; intro aa hS
  refine wpList_nil ?_
  refine hK1136 _ _ ?_
  refine wp_ret ?_
  repeat (first | with_reducible refine thenR ?_ | with_reducible refine blockR ?_ | with_reducible refine scopeR ?_)
  refine ret1 (fn := Try.f28) (e := .ret) (.inl rfl) Try.results28 hS hR ⟨_, (.tmp rfl), ?_⟩
  rw [butZ_self hall]
  exact ⟨rfl, (hR.sub exQ)⟩
 ·
  obtain ⟨k, hk, hkz, hkn, rfl⟩ : ∃ (k : Nat) (hk : k < xs.length), xs[k] = z ∧ (∀ x ∈ xs.take k, x ≠ z) ∧ vv = .int .i64 (k : Int) := by
   rcases hvv with ⟨h, _⟩ | h
   ·
    exact absurd h hn
   ·
    exact h
  refine sA hS hR (Yld.assign hS rfl) (by decide) ?_; clear hS; intro aa hS
  refine wpList_nil ?_
  refine hK1133 _ _ ?_
  refine wp_seq_k ?_; intro K1137 hK1137
  refine wp_seq_k ?_; intro K1138 hK1138
  refine wp_region_lit ?_
  refine sA hS hR (Yld.move hS rfl) (by decide) ?_; clear hS; intro aa hS
  refine sA hS hR (Yld.eql hS rfl rfl) (by decide) ?_; clear hS; intro aa hS
  replace hS := hS.sayB (t := 12) false rfl (by exact decide_eq_false (by omega))
  refine wpList_nil ?_
  refine hK1138 _ _ ?_
  refine condF hS rfl ?_
  refine wp_skip ?_
  refine hK1137 _ _ ?_
  refine wp_seq_k ?_; intro K1139 hK1139
  refine wp_seq_k ?_; intro K1140 hK1140
  refine wp_region_lit ?_
  refine sA hS hR (Yld.move hS rfl) (by decide) ?_; clear hS; intro aa hS
  refine sA hS hR ((by first | exact Yld.add64 hS rfl rfl (by omega) | exact Yld.add hS rfl rfl)) (by decide) ?_; clear hS; intro aa hS
  refine sA hS hR (Yld.assign hS rfl) (by decide) ?_; clear hS; intro aa hS
  refine wpList_nil ?_
  refine hK1140 _ _ ?_
  refine wp_block ?_
  replace hR := hR.pk (r := sls r xs.length c 3 1 (xs.flatMap e1)) pkQ
  refine loopI (X := Nat × Nat × List Int) [(0, _), (1, _), (4, _)] (fun x => [(5, .int .i64 (x.1 : Int)), (6, .int .i64 (x.2.1 : Int))]) (fun x => [sls r xs.length c 3 1 (x.2.2.flatMap e1)]) _ (fun x => DelI xs z x.1 x.2.1 x.2.2) (fun x => xs.length - x.2.1) (k, k + 1, xs) (DelI.start hk hkz hkn) (hS.le (Le.cons rfl (Le.cons rfl (Le.nilapp (Le.cons rfl (Le.cons rfl (Le.cons rfl (Le.nil _)))))))) hR ?_
  clear hS hR; rintro ⟨i, j, ys⟩ aa ww hI hS hR; dsimp only [List.cons_append, List.nil_append] at hI hS hR
  have hyl := hI.len
  have hij := hI.lt
  have hjn := hI.le
  refine wp_seq_k ?_; intro K1142 hK1142
  refine wp_seq_k ?_; intro K1143 hK1143
  refine wp_region_lit ?_
  refine sA hS hR (Yld.move hS rfl) (by decide) ?_; clear hS; intro aa hS
  refine sA hS hR (Yld.move hS rfl) (by decide) ?_; clear hS; intro aa hS
  refine sA hS hR (Yld.len hS rfl Try.underlying40) (by decide) ?_; clear hS; intro aa hS
  refine sA hS hR (Yld.lss hS rfl rfl) (by decide) ?_; clear hS; intro aa hS
  refine wpList_nil ?_
  refine hK1143 _ _ ?_
  refine hS.splitB (t := 19) rfl ?_ ?_ <;> clear hS
  ·
   intro hg hS
   have hjl : j < xs.length := by omega
   obtain ⟨x0, hx0⟩ : ∃ y : Int, ys[j]'(by omega) = y := ⟨_, rfl⟩
   have hxj : xs[j] = x0 := by rw [← hI.at hjl, hx0]
   refine condT hS rfl ?_
   refine wp_skip ?_
   refine hK1142 _ _ ?_
   refine wp_seq_k ?_; intro K1144 hK1144
   refine wp_block ?_
   refine wp_seq_k ?_; intro K1145 hK1145
   refine wp_region_lit ?_
   refine sA hS hR (Yld.move hS rfl) (by decide) ?_; clear hS; intro aa hS
   refine sA hS hR (Yld.move hS rfl) (by decide) ?_; clear hS; intro aa hS
   refine sA hS hR ((by first | exact Yld.indexL (sz := 1) (j) hS rfl rfl Try.underlying40 info3 pkQ rfl (by first | rfl | omega) (by omega) | exact Yld.indexB (sz := 1) (j) hS rfl rfl Try.underlying40 info3 rfl (by first | rfl | omega) (by omega))) (by decide) ?_; clear hS; intro aa hS
   refine sA hS hR (Yld.load1 hS rfl Try.underlying3 rfl (Rd.rec0 (k := j) (xs := ys) (v := .int .i64 x0) pkQ (by intro _; rfl) (by omega) (by rw [hx0]; rfl))) (by decide) ?_; clear hS; intro aa hS
   refine sA hS hR (Yld.assign hS rfl) (by decide) ?_; clear hS; intro aa hS
   refine wpList_nil ?_
   refine hK1145 _ _ ?_
   refine wp_seq_k ?_; intro K1146 hK1146
   refine wp_region_lit ?_
   refine sA hS hR (Yld.move hS rfl) (by decide) ?_; clear hS; intro aa hS
   refine sA hS hR (Yld.move hS rfl) (by decide) ?_; clear hS; intro aa hS
   refine sB (BcallV (first := []) (caps := [.pointer (some ⟨bz, 0, none⟩)]) hS rfl rfl Try.call29 (sod_is (x := x0) (z := z) (bz := bz) (hR.pk (r := blk bz _ _) pkQ)) (by decide) ?_); clear hS; intro aa ww vv hS hp
   clear hR
   obtain ⟨rfl, hR⟩ := hp
   refine sA hS hR (Yld.not hS rfl) (by decide) ?_; clear hS; intro aa hS
   refine wpList_nil ?_
   refine hK1146 _ _ ?_
   refine hS.splitB (t := 29) rfl ?_ ?_ <;> clear hS
   ·
    intro hg hS
    have hnx := hI.keep hjl (by rw [hxj]; exact hg)
    rw [hxj] at hnx
    refine condT hS rfl ?_
    refine wp_seq_k ?_; intro K1147 hK1147
    refine wp_region_lit ?_
    refine sA hS hR (Yld.move hS rfl) (by decide) ?_; clear hS; intro aa hS
    refine sA hS hR (Yld.move hS rfl) (by decide) ?_; clear hS; intro aa hS
    refine sA hS hR (Yld.move hS rfl) (by decide) ?_; clear hS; intro aa hS
    refine sA hS hR ((by first | exact Yld.indexL (sz := 1) (i) hS rfl rfl Try.underlying40 info3 pkQ rfl (by first | rfl | omega) (by omega) | exact Yld.indexB (sz := 1) (i) hS rfl rfl Try.underlying40 info3 rfl (by first | rfl | omega) (by omega))) (by decide) ?_; clear hS; intro aa hS
    refine sB (BstoreR0 (x0) hS hR rfl rfl (by rfl) info3 (by rfl) pkQ (by rfl) (by intro _; rfl) (by omega) (by first | exact Nat.le_of_ble_eq_true rfl | (simp only [List.length_singleton]; omega)) (Nat.le_of_ble_eq_true rfl) (by rfl) ?_); clear hR; intro ww hR
    refine wpList_nil ?_
    refine hK1147 _ _ ?_
    refine wp_region_lit ?_
    refine sA hS hR (Yld.move hS rfl) (by decide) ?_; clear hS; intro aa hS
    refine sA hS hR ((by first | exact Yld.add64 hS rfl rfl (by omega) | exact Yld.add hS rfl rfl)) (by decide) ?_; clear hS; intro aa hS
    refine sA hS hR (Yld.assign hS rfl) (by decide) ?_; clear hS; intro aa hS
    refine wpList_nil ?_
    refine hK1144 _ _ ?_
    refine wp_region_lit ?_
    refine sA hS hR (Yld.move hS rfl) (by decide) ?_; clear hS; intro aa hS
    refine sA hS hR ((by first | exact Yld.add64 hS rfl rfl (by omega) | exact Yld.add hS rfl rfl)) (by decide) ?_; clear hS; intro aa hS
    refine sA hS hR (Yld.assign hS rfl) (by decide) ?_; clear hS; intro aa hS
    refine wpList_nil ?_
    
    refine ⟨(i + 1, j + 1, _), ?_, ?_, hS.le (Le.cons rfl (Le.cons rfl (Le.nilapp (Le.cons rfl (Le.cons rfl (Le.cons rfl (Le.nil _))))))), hR.sub (Ex.take pkQ (Ex.nilapp exQ))⟩
    ·
     exact hnx
    ·
     dsimp only; omega
   ·
    intro hg hS
    have hnx := hI.skip hjl (by rw [hxj]; exact hg)
    refine condF hS rfl ?_
    refine wp_skip ?_
    refine hK1144 _ _ ?_
    refine wp_region_lit ?_
    refine sA hS hR (Yld.move hS rfl) (by decide) ?_; clear hS; intro aa hS
    refine sA hS hR ((by first | exact Yld.add64 hS rfl rfl (by omega) | exact Yld.add hS rfl rfl)) (by decide) ?_; clear hS; intro aa hS
    refine sA hS hR (Yld.assign hS rfl) (by decide) ?_; clear hS; intro aa hS
    refine wpList_nil ?_
    
    refine ⟨(i, j + 1, ys), ?_, ?_, hS.le (Le.cons rfl (Le.cons rfl (Le.nilapp (Le.cons rfl (Le.cons rfl (Le.cons rfl (Le.nil _))))))), hR.sub (Ex.take pkQ (Ex.nilapp exQ))⟩
    ·
     exact hnx
    ·
     dsimp only; omega
  ·
   intro hg hS
   obtain ⟨hd1, hd2, hd3⟩ := hI.done (by omega)
   refine condF hS rfl ?_
   refine wp_exit ?_
   refine hK1139 _ _ ?_
   refine wp_seq_k ?_; intro K1148 hK1148
   refine wp_region_lit ?_
   refine sA hS hR (Yld.move hS rfl) (by decide) ?_; clear hS; intro aa hS
   refine sA hS hR (Yld.move hS rfl) (by decide) ?_; clear hS; intro aa hS
   refine sA hS hR (Yld.sliceLo hS rfl rfl Try.underlying40 info3 (by omega) (by omega)) (by decide) ?_; clear hS; intro aa hS
   simp only [Int.toNat_natCast] at hS
   refine sB (Bclear0E (r := r) (lo := i) hS hR rfl Try.underlying40 info3 rfl pkQ (by rfl) (by omega) (by first | rfl | omega) ?_); clear hR; intro ww hR
   refine wpList_nil ?_
   refine hK1148 _ _ ?_
   refine wp_seq_k ?_; intro K1149 hK1149
   refine wp_region_lit ?_
   refine sA hS hR (Yld.move hS rfl) (by decide) ?_; clear hS; intro aa hS
   refine sA hS hR (Yld.move hS rfl) (by decide) ?_; clear hS; intro aa hS
   refine sA hS hR (Yld.sliceHi hS rfl rfl Try.underlying40 info3 (by omega) (by omega)) (by decide) ?_; clear hS; intro aa hS
   refine sA hS hR (Yld.assign hS rfl) (by decide) ?_; clear hS; intro aa hS
   refine wpList_nil ?_
   refine hK1149 _ _ ?_
   refine wp_ret ?_
   repeat (first | with_reducible refine thenR ?_ | with_reducible refine blockR ?_ | with_reducible refine scopeR ?_)
   refine ret1 (fn := Try.f28) (e := .ret) (.inl rfl) Try.results28 hS hR ⟨_, (.tmp rfl), ?_⟩
   rw [e1_take, hd1] at hR
   subst hd2
   exact ⟨rfl, (hR.sub exQ)⟩
set_option maxHeartbeats 4000000 in
set_option maxRecDepth 20000 in
theorem SourceOrder_ok {W : World} {q : Option Addr} {n c : Nat} {a b0 : Int} {xs : List (List Int)} (A1 : ArgS W [.u8, .u32, .i64] q n c xs) {l : List HP} {w : World} (ha : 0 ≤ a ∧ a ≤ 255) (hb0 : 0 ≤ b0 ∧ b0 ≤ 255) (hR : Sep (old W :: l) w) : CallR Try.prog 9 [.int .u8 a, .int .u8 b0, .slice q n c] w (fun v w' => v = .bool true ∧ Sep (old W :: l) w') := by
 refine enter Try.func9 rfl Try.ntmps9 (Nat.le_of_ble_eq_true rfl) ?_; intro aa hS
 have hcap := A1.cap
 refine wp_seq_k ?_; intro K1150 hK1150
 refine wp_region_lit ?_
 refine sA hS hR (Yld.assign hS rfl) (by decide) ?_; clear hS; intro aa hS
 refine wpList_nil ?_
 refine hK1150 _ _ ?_
 refine wp_seq_k ?_; intro K1151 hK1151
 refine wp_seq_k ?_; intro K1152 hK1152
 refine wp_region_lit ?_
 refine sB (Bcall hS rfl Try.call10 (awake31_ok hR) (by decide) ?_); clear hS; intro aa ww vv hS hp
 clear hR
 obtain ⟨rfl, hR⟩ := hp
 refine sA hS hR (Yld.not hS rfl) (by decide) ?_; clear hS; intro aa hS
 refine wpList_nil ?_
 refine hK1152 _ _ ?_
 refine condF hS rfl ?_
 refine wp_skip ?_
 refine hK1151 _ _ ?_
 refine wp_seq_k ?_; intro K1153 hK1153
 refine wp_region_lit ?_
 refine sA hS hR (Yld.move hS rfl) (by decide) ?_; clear hS; intro aa hS
 refine sA hS hR (Yld.move hS rfl) (by decide) ?_; clear hS; intro aa hS
 refine sB (Bcall hS rfl Try.call11 (fresh31_ok ha hb0 hR) (by decide) ?_); clear hS; intro aa ww vv hS hp
 clear hR
 obtain ⟨b, S, lim, rfl, hSe, hle, hR⟩ := hp
 refine sA hS hR (Yld.move hS rfl) (by decide) ?_; clear hS; intro aa hS
 refine sA hS hR (Yld.extract hS rfl rfl) (by decide) ?_; clear hS; intro aa hS
 refine sA hS hR (Yld.extract hS rfl rfl) (by decide) ?_; clear hS; intro aa hS
 refine sA hS hR (Yld.extract hS rfl rfl) (by decide) ?_; clear hS; intro aa hS
 refine sA hS hR (Yld.assign hS rfl) (by decide) ?_; clear hS; intro aa hS
 refine sA hS hR (Yld.assign hS rfl) (by decide) ?_; clear hS; intro aa hS
 refine sA hS hR (Yld.assign hS rfl) (by decide) ?_; clear hS; intro aa hS
 refine wpList_nil ?_
 refine hK1153 _ _ ?_
 refine wp_seq_k ?_; intro K1154 hK1154
 refine wp_seq_k ?_; intro K1155 hK1155
 refine wp_region_lit ?_
 refine sA hS hR (Yld.move hS rfl) (by decide) ?_; clear hS; intro aa hS
 refine sA hS hR (Yld.eqlNil hS rfl rfl Try.underlying24) (by decide) ?_; clear hS; intro aa hS
 replace hS := hS.sayB (t := 29) false rfl (by rfl)
 refine wpList_nil ?_
 refine hK1155 _ _ ?_
 refine condF hS rfl ?_
 refine wp_skip ?_
 refine hK1154 _ _ ?_
 refine wp_seq_k ?_; intro K1156 hK1156
 refine wp_region_lit ?_
 refine sB (Balloc hS hR info66 (by rfl) (by rfl) (by decide) ?_); clear hS hR; intro aa ww bb10 hS hR
 replace hR := hR.pk (r := blk bb10 _ _) pkQ
 change Sep (blk bb10 ((List.replicate 8 (((none, 0), []) : RowG Int)).flatMap eRG) 66 :: _) _ at hR
 replace hR := hR.rowsGNew (n := 8) (TI := 3) (sz := 1) (enc := e1)
 refine wpList_nil ?_
 refine hK1156 _ _ ?_
 refine wp_seq_k ?_; intro K1157 hK1157
 refine wp_seq_k ?_; intro K1158 hK1158
 refine wp_region_lit ?_
 refine sA hS hR (Yld.move hS rfl) (by decide) ?_; clear hS; intro aa hS
 refine sA hS hR (Yld.move hS rfl) (by decide) ?_; clear hS; intro aa hS
 refine sA hS hR (Yld.len hS rfl Try.underlying22) (by decide) ?_; clear hS; intro aa hS
 refine sA hS hR (Yld.min hS rfl rfl) (by decide) ?_; clear hS; intro aa hS
 refine sA hS hR (Yld.sliceHi hS rfl rfl Try.underlying22 info30 (by omega) (by omega)) (by decide) ?_; clear hS; intro aa hS
 obtain ⟨mm, hmm0, hmm1⟩ : ∃ y : Nat, (Min.min (n : Int) 100).toNat = y ∧ y ≤ n ∧ y ≤ 100 := ⟨_, rfl, by omega, by omega⟩
 replace hS := hS.say (t := 34) (.slice q mm c) rfl (by rw [hmm0])
 refine sA hS hR (Yld.len hS rfl Try.underlying22) (by decide) ?_; clear hS; intro aa hS
 refine sA hS hR (Yld.move hS rfl) (by decide) ?_; clear hS; intro aa hS
 refine wpList_nil ?_
 refine hK1158 _ _ ?_
 refine wp_block ?_
 rw [show T0 S = fT S lim xs 0 from fT_zero.symm] at hR
 replace hR := hR.pk (r := rowsG 3 1 e1 (List.replicate 8 (((none, 0), []) : RowG Int))) pkQ
 replace hR := hR.pk (r := blk bb10 ((List.replicate 8 (((none, 0), []) : RowG Int)).flatMap eRG) 66) pkQ
 replace hR := hR.pk (r := sourceA ss b S lim (fT S lim xs 0)) pkQ
 refine loopI (X := Nat × List (RowG Int)) [(7, _), (8, _), (10, _), (34, _), (35, _)] (fun x => [(36, .int .i64 (x.1 : Int))]) (fun x => [sourceA ss b S lim (fT S lim xs x.1), blk bb10 (x.2.flatMap eRG) 66, rowsG 3 1 e1 x.2]) _ (fun x => x.1 ≤ mm ∧ RowsA 8 x.2 (rowS (fT S lim xs x.1))) (fun x => mm - x.1) (0, (List.replicate 8 (((none, 0), []) : RowG Int))) ⟨Nat.zero_le _, RowsA.new.ext fun j _ => by rw [fT_zero]; rfl⟩ (hS.le (Le.cons rfl (Le.nilapp (Le.cons rfl (Le.cons rfl (Le.cons rfl (Le.cons rfl (Le.cons rfl (Le.nil _))))))))) hR ?_
 clear hS hR; rintro ⟨k, ys⟩ aa ww hI hS hR; dsimp only [List.cons_append, List.nil_append] at hI hS hR
 have hRA := hI.2
 have hyl := hRA.len
 refine wp_seq_k ?_; intro K1160 hK1160
 refine wp_region_lit ?_
 refine sA hS hR (Yld.lss hS rfl rfl) (by decide) ?_; clear hS; intro aa hS
 refine wpList_nil ?_
 refine hK1160 _ _ ?_
 refine wp_seq_k ?_; intro K1161 hK1161
 refine hS.splitB (t := 37) rfl ?_ ?_ <;> clear hS
 ·
  intro hg hS
  refine condT hS rfl ?_
  refine wp_skip ?_
  refine hK1161 _ _ ?_
  refine wp_seq_k ?_; intro K1162 hK1162
  refine wp_block ?_
  refine wp_seq_k ?_; intro K1163 hK1163
  refine wp_region_lit ?_
  obtain ⟨ba, ia, ns, hq, hx, hl, hw, hc⟩ := A1.at (k := k) (by omega)
  obtain ⟨s0, s1, s2, rfl⟩ := len3 hl
  subst hq
  have hw0 : 0 ≤ s0 ∧ s0 ≤ 255 := hw.1
  have hw1 : 0 ≤ s1 ∧ s1 ≤ 4294967295 := hw.2.1
  obtain ⟨sl, hsl, hslS⟩ := emod_nat (n := s2) (d := (S : Int)) (m := S) rfl (by omega)
  have hTn := fT_succ (S := S) (lim := lim) hx
  have hSF := fT_SF (S := S) (lim := lim) (xs := xs) (i := k) (by omega) (by omega)
  have hLow := fT_Low (S := S) (lim := lim) (xs := xs) (i := k)
  obtain ⟨T, hTe⟩ : ∃ y, fT S lim xs k = y := ⟨_, rfl⟩
  rw [hTe] at hR hTn hSF hLow hRA
  have hol := hSF.olen
  have hsl1 := fun a => Nat.le_trans (slO_len (O := T.O) (a := a)) hol
  refine sA hS hR ((by first | exact Yld.indexL (sz := 3) _ hS rfl rfl Try.underlying22 info30 pkQ rfl rfl (by omega) | exact Yld.indexB (sz := 3) _ hS rfl rfl Try.underlying22 info30 rfl rfl (by omega) | exact Yld.indexSlice hS rfl rfl Try.underlying22 info30 (by omega) (by omega))) (by decide) ?_; clear hS; intro aa hS
  by_cases hn : s0 % 2 = 0
  ·
   refine sA hS hR (Yld.loadAgg (vs := [.int .u8 s0, .int .u32 s1, .int .i64 s2]) hS rfl Try.underlying30 rfl info30 (Rds.at (Rds.old pkQ hc) (by rfl)) (by rfl)) (by decide) ?_; clear hS; intro aa hS
   have hev := hn
   by_cases hn : ofO T.O (sl : Int) = none
   ·
    refine sB (Balloc hS hR info30 (by rfl) (by rfl) (by decide) ?_); clear hS hR; intro aa ww bb12 hS hR
    have hoo := hn
    by_cases hn : (slO T.O (s1 % 8)).length < lim
    ·
     refine sB (Bstore hS hR rfl rfl (by rfl) info30 (by rfl) pkQ (by rfl) (Nat.le_of_ble_eq_true rfl) ?_); clear hR; intro ww hR
     refine wpList_nil ?_
     refine hK1163 _ _ ?_
     refine wp_seq_k ?_; intro K1164 hK1164
     refine wp_region_lit ?_
     refine sA hS hR (Yld.move hS rfl) (by decide) ?_; clear hS; intro aa hS
     refine sA hS hR (Yld.move hS rfl) (by decide) ?_; clear hS; intro aa hS
     refine sA hS hR (Yld.loadAgg hS rfl Try.underlying30 rfl info30 (by first | exact Rds.cons (Rd.blk pkQ (by rfl)) (Rds.cons (Rd.blk pkQ (by rfl)) (Rds.cons (Rd.blk pkQ (by rfl)) (Rds.nil))) | exact Rds.rec pkQ (by intro _; rfl) (by omega) | exact Rds.flat1 pkQ (by intro _; rfl) (by omega)) (by rfl)) (by decide) ?_; clear hS; intro aa hS
     obtain ⟨ad, had, hadl⟩ := emod_nat (n := s1) (d := 8) (m := 8) rfl (by omega)
     have hfit := hn
     rw [had] at hfit
     obtain ⟨h1, h2⟩ := opn_ok (S := S) (lim := lim) (T := T) (a := (ad : Int)) hslS hoo hfit
     obtain ⟨ee1, ee2, ee3⟩ := act_open (S := S) (lim := lim) (T := T) (a := s1) (z := s2) hev
     rw [hsl, had] at ee2 ee3
     rw [had] at ee1
     rw [h1] at ee2
     rw [h2] at ee3
     refine sB (Bcall hS rfl Try.call12 (act31_ok (k := s0) (a := s1) (z := s2) (by omega) (by omega) hw0 hw1 (hR.pk (r := sourceA _ b _ _ _) pkQ)) (by decide) ?_); clear hS; intro aa ww vv hS hp
     clear hR
     obtain ⟨rfl, hR⟩ := hp
     rw [ee1, hsl, ee2] at hS; rw [ee3] at hR
     try dsimp only [Option.getD] at hS
     refine sA hS hR (Yld.move hS rfl) (by decide) ?_; clear hS; intro aa hS
     refine sA hS hR (Yld.extract hS rfl rfl) (by decide) ?_; clear hS; intro aa hS
     refine sA hS hR (Yld.extract hS rfl rfl) (by decide) ?_; clear hS; intro aa hS
     refine sA hS hR (Yld.extract hS rfl rfl) (by decide) ?_; clear hS; intro aa hS
     refine sB (Balloc hS hR info3 (by rfl) (by rfl) (by decide) ?_); clear hS hR; intro aa ww bb14 hS hR
     refine sA hS hR (Yld.assign hS rfl) (by decide) ?_; clear hS; intro aa hS
     refine sB (Bstore hS hR rfl rfl (by rfl) info3 (by rfl) pkQ (by rfl) (Nat.le_of_ble_eq_true rfl) ?_); clear hR; intro ww hR
     refine sA hS hR (Yld.assign hS rfl) (by decide) ?_; clear hS; intro aa hS
     refine wpList_nil ?_
     refine hK1164 _ _ ?_
     refine wp_seq_k ?_; intro K1165 hK1165
     refine wp_seq_k ?_; intro K1166 hK1166
     refine wp_region_lit ?_
     refine sA hS hR (Yld.move hS rfl) (by decide) ?_; clear hS; intro aa hS
     refine sA hS hR (Yld.neq hS rfl rfl) (by decide) ?_; clear hS; intro aa hS
     replace hS := hS.sayB (t := 49) false rfl (by exact decide_eq_false (by omega))
     refine wpList_nil ?_
     refine hK1166 _ _ ?_
     refine condF hS rfl ?_
     refine wp_skip ?_
     refine hK1165 _ _ ?_
     refine wp_seq_k ?_; intro K1167 hK1167
     refine wp_seq_k ?_; intro K1168 hK1168
     refine wp_region_lit ?_
     refine sA hS hR (Yld.move hS rfl) (by decide) ?_; clear hS; intro aa hS
     refine sA hS hR (Yld.gtr hS rfl rfl) (by decide) ?_; clear hS; intro aa hS
     replace hS := hS.sayB (t := 51) false rfl (by exact decide_eq_false (by omega))
     refine wpList_nil ?_
     refine hK1168 _ _ ?_
     refine condF hS rfl ?_
     refine wp_skip ?_
     refine hK1167 _ _ ?_
     refine wp_seq_k ?_; intro K1169 hK1169
     refine wp_seq_k ?_; intro K1170 hK1170
     refine wp_region_lit ?_
     refine sA hS hR (Yld.fieldAddr hS rfl 0 Try.underlying30 rfl rfl info5 (by decide)) (by decide) ?_; clear hS; intro aa hS
     refine sA hS hR (Yld.load1 hS rfl Try.underlying5 rfl (by first | exact Rd.blk pkQ (by rfl) | exact Rd.rec pkQ (by intro _; rfl) (by omega) rfl | exact Rd.rec0 pkQ (by intro _; rfl) (by omega) rfl | exact Rd.flatJ pkQ (by intro _; rfl) (by omega) rfl | exact Rd.flat0 pkQ (by intro _; rfl) (by omega) rfl)) (by decide) ?_; clear hS; intro aa hS
     refine sA hS hR ((by first | exact Yld.rem64 hS rfl rfl (by omega) | exact Yld.rem hS rfl rfl (by omega))) (by decide) ?_; clear hS; intro aa hS
     refine sA hS hR (Yld.eql hS rfl rfl) (by decide) ?_; clear hS; intro aa hS
     replace hS := hS.sayB (t := 55) true rfl (by exact decide_eq_true (by omega))
     refine wpList_nil ?_
     refine hK1170 _ _ ?_
     refine condT hS rfl ?_
     refine wp_seq_k ?_; intro K1171 hK1171
     obtain ⟨rr, rc, hrow⟩ := hRA.at' ad (by omega)
     have hry : ys[ad]'(by omega) = ((rr, rc), rowS T ad) := (List.getElem?_eq_some_iff.1 hrow).2
     have hrl : (rowS T ad).length ≤ 60 := by rw [cst_len]; have := hsl1 (ad : Int); omega
     replace hR := (hR.pk (r := rowsG _ _ _ ys) pkQ).rowGAt hrow
     dsimp only at hR
     refine drawnL2 8 (by kernel_rfl) hR (Ex.of_pk (r := sls rr _ _ _ _ _) pkQ) ?_; clear hR; intro ww hR hR0
     refine lA 0 rfl (by kernel_rfl) (by kernel_rfl) (by kernel_rfl) (by kernel_rfl) (fun _ _ _ h => h) hS hR0 (Yld.move hS rfl) (by decide) ?_; clear hS; intro aa hS
     refine lA 1 rfl (by kernel_rfl) (by kernel_rfl) (by kernel_rfl) (by kernel_rfl) (fun _ _ _ h => h) hS hR0 (Yld.move hS rfl) (by decide) ?_; clear hS; intro aa hS
     refine lA 2 rfl (by kernel_rfl) (by kernel_rfl) (by kernel_rfl) (by kernel_rfl) (fun _ _ _ h => h) hS hR0 (Yld.to (u := .pointer (some ⟨bb10, ad * 1, none⟩)) (Yld.indexArr hS rfl rfl Try.underlying66 info40 (by omega) (by omega)) (by have h1 : (Try.t40).size = 1 := rfl; rw [h1]; congr 3 <;> omega)) (by decide) ?_; clear hS; intro aa hS
     refine lA 3 rfl (by kernel_rfl) (by kernel_rfl) (by kernel_rfl) (by kernel_rfl) (fun _ _ _ h => h) hS hR0 (Yld.load1 hS rfl Try.underlying40 rfl (Rd.flat0 (sz := 1) (k := ad) (xs := ys) (v := .slice rr (rowS T ad).length rc) pkQ (by intro _; rfl) (by omega) (by rw [hry]; rfl))) (by decide) ?_; clear hS; intro aa hS
     refine lA 4 rfl (by kernel_rfl) (by kernel_rfl) (by kernel_rfl) (by kernel_rfl) (fun _ _ _ h => h) hS hR0 (Yld.load1 hS rfl Try.underlying3 rfl (by first | exact Rd.blk pkQ (by rfl) | exact Rd.rec pkQ (by intro _; rfl) (by omega) rfl | exact Rd.rec0 pkQ (by intro _; rfl) (by omega) rfl | exact Rd.flatJ pkQ (by intro _; rfl) (by omega) rfl | exact Rd.flat0 pkQ (by intro _; rfl) (by omega) rfl)) (by decide) ?_; clear hS; intro aa hS
     refine lOne (i := 5) (by kernel_rfl) ?_
     refine dop rfl (BbuildSlice hS hR rfl (bls40_1_0 _) (by decide) ?_); clear hS hR hR0; intro aa ww bb61 hS hR
     refine lnext (hR.sub exQ) ?_; intro hR0
     refine lOne (i := 6) (by kernel_rfl) ?_
     refine dop rfl (BappendR (sz := 1) hS hR rfl rfl Try.underlying40 info3 rfl rfl (by rfl) pkQ (XC.one ((sl : Int)) pkQ (by rfl) rfl) (by intro _; rfl) (by show (_ + _) * 8 ≤ _; first | omega | (simp only [List.length_take, List.length_append, List.length_drop, List.length_cons, List.length_nil, List.length_map]; omega)) (by first | omega | (simp only [List.length_take, List.length_append, List.length_drop, List.length_cons, List.length_nil, List.length_map]; omega)) (by first | rfl | (simp; done) | (simp; omega)) (by decide) ?_); clear hS hR hR0; intro aa ww r62 c62 hS hR
     refine lnext (hR.sub exQ) ?_; intro hR0
     refine lA 7 rfl (by kernel_rfl) (by kernel_rfl) (by kernel_rfl) (by kernel_rfl) (fun _ _ _ h => h) hS hR0 (Yld.to (u := .pointer (some ⟨bb10, ad, none⟩)) (Yld.indexArr hS rfl rfl Try.underlying66 info40 (by omega) (by omega)) (by have h1 : (Try.t40).size = 1 := rfl; rw [h1]; congr 3 <;> omega)) (by decide) ?_; clear hS; intro aa hS
     refine lOne (i := 8) (by kernel_rfl) ?_
     refine dop rfl (BstoreG (ys := ys) (xs := rowS T ad ++ [(sl : Int)]) hS hR rfl rfl info40 rfl pkQ (by omega) rfl ?_); clear hR hR0; intro ww hR
     refine lend ?_
     refine wpAnyL_done (by kernel_rfl) ?_ _; try clear hR0
     refine hK1171 _ _ ?_
     refine wp_exit ?_
     refine hK1162 _ _ ?_
     refine wp_region_lit ?_
     refine sA hS hR ((by first | exact Yld.add64 hS rfl rfl (by omega) | exact Yld.add hS rfl rfl)) (by decide) ?_; clear hS; intro aa hS
     refine sA hS hR (Yld.move hS rfl) (by decide) ?_; clear hS; intro aa hS
     refine wpList_nil ?_
     have hT2 := hTn.trans ee3
     replace hR := Sep.rowGSet (i := ad) (ys := ys) ((hR.pk (r := rowsG _ _ _ (ys.take _ ++ _)) pkQ).pk (r := sls r62 _ _ _ _ _) pkQ) rfl (by omega)
     have hRn := (hRA.set (k := ad) hadl (r := r62) (c := c62) (M := rowS T ad ++ [(sl : Int)])).ext (R' := rowS (fT S lim xs (k + 1))) fun j _ => by rw [hT2, rowS_add hSF hslS hoo]
     rw [← hT2] at hR
     refine ⟨(k + 1, _), ?_, ?_, hS.le (Le.cons rfl (Le.nilapp (Le.cons rfl (Le.cons rfl (Le.cons rfl (Le.cons rfl (Le.cons rfl (Le.nil _)))))))), hR.sub (Ex.take pkQ (Ex.take pkQ (Ex.take pkQ (Ex.nilapp exQ))))⟩
     ·
      exact ⟨by dsimp only; omega, hRn⟩
     ·
      dsimp only; omega
    ·
     refine sB (Bstore hS hR rfl rfl (by rfl) info30 (by rfl) pkQ (by rfl) (Nat.le_of_ble_eq_true rfl) ?_); clear hR; intro ww hR
     refine wpList_nil ?_
     refine hK1163 _ _ ?_
     refine wp_seq_k ?_; intro K1172 hK1172
     refine wp_region_lit ?_
     refine sA hS hR (Yld.move hS rfl) (by decide) ?_; clear hS; intro aa hS
     refine sA hS hR (Yld.move hS rfl) (by decide) ?_; clear hS; intro aa hS
     refine sA hS hR (Yld.loadAgg hS rfl Try.underlying30 rfl info30 (by first | exact Rds.cons (Rd.blk pkQ (by rfl)) (Rds.cons (Rd.blk pkQ (by rfl)) (Rds.cons (Rd.blk pkQ (by rfl)) (Rds.nil))) | exact Rds.rec pkQ (by intro _; rfl) (by omega) | exact Rds.flat1 pkQ (by intro _; rfl) (by omega)) (by rfl)) (by decide) ?_; clear hS; intro aa hS
     obtain ⟨ad, had, hadl⟩ := emod_nat (n := s1) (d := 8) (m := 8) rfl (by omega)
     have hfit := hn
     rw [had] at hfit
     obtain ⟨h1, h2⟩ := opn_full (S := S) (lim := lim) (T := T) (a := (ad : Int)) (x := (sl : Int)) (by omega) hoo (Nat.le_of_not_lt hfit)
     obtain ⟨ee1, ee2, ee3⟩ := act_open (S := S) (lim := lim) (T := T) (a := s1) (z := s2) hev
     rw [hsl, had] at ee2 ee3
     rw [had] at ee1
     rw [h1] at ee2
     rw [h2] at ee3
     refine sB (Bcall hS rfl Try.call12 (act31_ok (k := s0) (a := s1) (z := s2) (by omega) (by omega) hw0 hw1 (hR.pk (r := sourceA _ b _ _ _) pkQ)) (by decide) ?_); clear hS; intro aa ww vv hS hp
     clear hR
     obtain ⟨rfl, hR⟩ := hp
     rw [ee1, hsl, ee2] at hS; rw [ee3] at hR
     try dsimp only [Option.getD] at hS
     refine sA hS hR (Yld.move hS rfl) (by decide) ?_; clear hS; intro aa hS
     refine sA hS hR (Yld.extract hS rfl rfl) (by decide) ?_; clear hS; intro aa hS
     refine sA hS hR (Yld.extract hS rfl rfl) (by decide) ?_; clear hS; intro aa hS
     refine sA hS hR (Yld.extract hS rfl rfl) (by decide) ?_; clear hS; intro aa hS
     refine sB (Balloc hS hR info3 (by rfl) (by rfl) (by decide) ?_); clear hS hR; intro aa ww bb14 hS hR
     refine sA hS hR (Yld.assign hS rfl) (by decide) ?_; clear hS; intro aa hS
     refine sB (Bstore hS hR rfl rfl (by rfl) info3 (by rfl) pkQ (by rfl) (Nat.le_of_ble_eq_true rfl) ?_); clear hR; intro ww hR
     refine sA hS hR (Yld.assign hS rfl) (by decide) ?_; clear hS; intro aa hS
     refine wpList_nil ?_
     refine hK1172 _ _ ?_
     refine wp_seq_k ?_; intro K1173 hK1173
     refine wp_seq_k ?_; intro K1174 hK1174
     refine wp_region_lit ?_
     refine sA hS hR (Yld.move hS rfl) (by decide) ?_; clear hS; intro aa hS
     refine sA hS hR (Yld.neq hS rfl rfl) (by decide) ?_; clear hS; intro aa hS
     replace hS := hS.sayB (t := 49) true rfl (by exact decide_eq_true (by omega))
     refine wpList_nil ?_
     refine hK1174 _ _ ?_
     refine condT hS rfl ?_
     refine wp_exit ?_
     refine hK1162 _ _ ?_
     refine wp_region_lit ?_
     refine sA hS hR ((by first | exact Yld.add64 hS rfl rfl (by omega) | exact Yld.add hS rfl rfl)) (by decide) ?_; clear hS; intro aa hS
     refine sA hS hR (Yld.move hS rfl) (by decide) ?_; clear hS; intro aa hS
     refine wpList_nil ?_
     have hT2 := hTn.trans ee3
     have hRn : RowsA 8 ys (rowS (fT S lim xs (k + 1))) := by rw [hT2]; exact hRA
     rw [← hT2] at hR
     refine ⟨(k + 1, _), ?_, ?_, hS.le (Le.cons rfl (Le.nilapp (Le.cons rfl (Le.cons rfl (Le.cons rfl (Le.cons rfl (Le.cons rfl (Le.nil _)))))))), hR.sub (Ex.take pkQ (Ex.take pkQ (Ex.take pkQ (Ex.nilapp exQ))))⟩
     ·
      exact ⟨by dsimp only; omega, hRn⟩
     ·
      dsimp only; omega
   ·
    refine sB (Balloc hS hR info30 (by rfl) (by rfl) (by decide) ?_); clear hS hR; intro aa ww bb12 hS hR
    refine sB (Bstore hS hR rfl rfl (by rfl) info30 (by rfl) pkQ (by rfl) (Nat.le_of_ble_eq_true rfl) ?_); clear hR; intro ww hR
    refine wpList_nil ?_
    refine hK1163 _ _ ?_
    refine wp_seq_k ?_; intro K1175 hK1175
    refine wp_region_lit ?_
    refine sA hS hR (Yld.move hS rfl) (by decide) ?_; clear hS; intro aa hS
    refine sA hS hR (Yld.move hS rfl) (by decide) ?_; clear hS; intro aa hS
    refine sA hS hR (Yld.loadAgg hS rfl Try.underlying30 rfl info30 (by first | exact Rds.cons (Rd.blk pkQ (by rfl)) (Rds.cons (Rd.blk pkQ (by rfl)) (Rds.cons (Rd.blk pkQ (by rfl)) (Rds.nil))) | exact Rds.rec pkQ (by intro _; rfl) (by omega) | exact Rds.flat1 pkQ (by intro _; rfl) (by omega)) (by rfl)) (by decide) ?_; clear hS; intro aa hS
    obtain ⟨ad, had, hadl⟩ := emod_nat (n := s1) (d := 8) (m := 8) rfl (by omega)
    obtain ⟨q0, hoo⟩ : ∃ q0, ofO T.O (sl : Int) = some q0 := by
     cases hv : ofO T.O (sl : Int) with
     | none => exact absurd hv hn
     | some o => exact ⟨o, rfl⟩
    have hq0 := hLow.of hSF hoo
    obtain ⟨h1, h2⟩ := opn_there (S := S) (lim := lim) (T := T) (a := (ad : Int)) (x := (sl : Int)) (by omega) hoo
    obtain ⟨ee1, ee2, ee3⟩ := act_open (S := S) (lim := lim) (T := T) (a := s1) (z := s2) hev
    rw [hsl, had] at ee2 ee3
    rw [had] at ee1
    rw [h1] at ee2
    rw [h2] at ee3
    refine sB (Bcall hS rfl Try.call12 (act31_ok (k := s0) (a := s1) (z := s2) (by omega) (by omega) hw0 hw1 (hR.pk (r := sourceA _ b _ _ _) pkQ)) (by decide) ?_); clear hS; intro aa ww vv hS hp
    clear hR
    obtain ⟨rfl, hR⟩ := hp
    rw [ee1, hsl, ee2] at hS; rw [ee3] at hR
    try dsimp only [Option.getD] at hS
    refine sA hS hR (Yld.move hS rfl) (by decide) ?_; clear hS; intro aa hS
    refine sA hS hR (Yld.extract hS rfl rfl) (by decide) ?_; clear hS; intro aa hS
    refine sA hS hR (Yld.extract hS rfl rfl) (by decide) ?_; clear hS; intro aa hS
    refine sA hS hR (Yld.extract hS rfl rfl) (by decide) ?_; clear hS; intro aa hS
    refine sB (Balloc hS hR info3 (by rfl) (by rfl) (by decide) ?_); clear hS hR; intro aa ww bb14 hS hR
    refine sA hS hR (Yld.assign hS rfl) (by decide) ?_; clear hS; intro aa hS
    refine sB (Bstore hS hR rfl rfl (by rfl) info3 (by rfl) pkQ (by rfl) (Nat.le_of_ble_eq_true rfl) ?_); clear hR; intro ww hR
    refine sA hS hR (Yld.assign hS rfl) (by decide) ?_; clear hS; intro aa hS
    refine wpList_nil ?_
    refine hK1175 _ _ ?_
    refine wp_seq_k ?_; intro K1176 hK1176
    refine wp_seq_k ?_; intro K1177 hK1177
    refine wp_region_lit ?_
    refine sA hS hR (Yld.move hS rfl) (by decide) ?_; clear hS; intro aa hS
    refine sA hS hR (Yld.neq hS rfl rfl) (by decide) ?_; clear hS; intro aa hS
    replace hS := hS.sayB (t := 49) true rfl (by exact decide_eq_true (by omega))
    refine wpList_nil ?_
    refine hK1177 _ _ ?_
    refine condT hS rfl ?_
    refine wp_exit ?_
    refine hK1162 _ _ ?_
    refine wp_region_lit ?_
    refine sA hS hR ((by first | exact Yld.add64 hS rfl rfl (by omega) | exact Yld.add hS rfl rfl)) (by decide) ?_; clear hS; intro aa hS
    refine sA hS hR (Yld.move hS rfl) (by decide) ?_; clear hS; intro aa hS
    refine wpList_nil ?_
    have hT2 := hTn.trans ee3
    have hRn : RowsA 8 ys (rowS (fT S lim xs (k + 1))) := by rw [hT2]; exact hRA
    rw [← hT2] at hR
    refine ⟨(k + 1, _), ?_, ?_, hS.le (Le.cons rfl (Le.nilapp (Le.cons rfl (Le.cons rfl (Le.cons rfl (Le.cons rfl (Le.cons rfl (Le.nil _)))))))), hR.sub (Ex.take pkQ (Ex.take pkQ (Ex.take pkQ (Ex.nilapp exQ))))⟩
    ·
     exact ⟨by dsimp only; omega, hRn⟩
    ·
     dsimp only; omega
  ·
   refine sA hS hR (Yld.loadAgg (vs := [.int .u8 s0, .int .u32 s1, .int .i64 s2]) hS rfl Try.underlying30 rfl info30 (Rds.at (Rds.old pkQ hc) (by rfl)) (by rfl)) (by decide) ?_; clear hS; intro aa hS
   have hev := hn
   by_cases hn : ofO T.O (sl : Int) = none
   ·
    refine sB (Balloc hS hR info30 (by rfl) (by rfl) (by decide) ?_); clear hS hR; intro aa ww bb12 hS hR
    have hoo := hn
    refine sB (Bstore hS hR rfl rfl (by rfl) info30 (by rfl) pkQ (by rfl) (Nat.le_of_ble_eq_true rfl) ?_); clear hR; intro ww hR
    refine wpList_nil ?_
    refine hK1163 _ _ ?_
    refine wp_seq_k ?_; intro K1178 hK1178
    refine wp_region_lit ?_
    refine sA hS hR (Yld.move hS rfl) (by decide) ?_; clear hS; intro aa hS
    refine sA hS hR (Yld.move hS rfl) (by decide) ?_; clear hS; intro aa hS
    refine sA hS hR (Yld.loadAgg hS rfl Try.underlying30 rfl info30 (by first | exact Rds.cons (Rd.blk pkQ (by rfl)) (Rds.cons (Rd.blk pkQ (by rfl)) (Rds.cons (Rd.blk pkQ (by rfl)) (Rds.nil))) | exact Rds.rec pkQ (by intro _; rfl) (by omega) | exact Rds.flat1 pkQ (by intro _; rfl) (by omega)) (by rfl)) (by decide) ?_; clear hS; intro aa hS
    obtain ⟨h1, h2⟩ := cls_none (S := S) (T := T) (x := (sl : Int)) (by omega) hoo
    obtain ⟨ee1, ee2, ee3⟩ := act_close (S := S) (lim := lim) (T := T) (a := s1) (z := s2) hev
    rw [hsl] at ee1 ee2 ee3
    rw [hoo] at ee1
    rw [h1] at ee2
    rw [h2] at ee3
    refine sB (Bcall hS rfl Try.call12 (act31_ok (k := s0) (a := s1) (z := s2) (by omega) (by omega) hw0 hw1 (hR.pk (r := sourceA _ b _ _ _) pkQ)) (by decide) ?_); clear hS; intro aa ww vv hS hp
    clear hR
    obtain ⟨rfl, hR⟩ := hp
    rw [ee1, hsl, ee2] at hS; rw [ee3] at hR
    try dsimp only [Option.getD] at hS
    refine sA hS hR (Yld.move hS rfl) (by decide) ?_; clear hS; intro aa hS
    refine sA hS hR (Yld.extract hS rfl rfl) (by decide) ?_; clear hS; intro aa hS
    refine sA hS hR (Yld.extract hS rfl rfl) (by decide) ?_; clear hS; intro aa hS
    refine sA hS hR (Yld.extract hS rfl rfl) (by decide) ?_; clear hS; intro aa hS
    refine sB (Balloc hS hR info3 (by rfl) (by rfl) (by decide) ?_); clear hS hR; intro aa ww bb14 hS hR
    refine sA hS hR (Yld.assign hS rfl) (by decide) ?_; clear hS; intro aa hS
    refine sB (Bstore hS hR rfl rfl (by rfl) info3 (by rfl) pkQ (by rfl) (Nat.le_of_ble_eq_true rfl) ?_); clear hR; intro ww hR
    refine sA hS hR (Yld.assign hS rfl) (by decide) ?_; clear hS; intro aa hS
    refine wpList_nil ?_
    refine hK1178 _ _ ?_
    refine wp_seq_k ?_; intro K1179 hK1179
    refine wp_seq_k ?_; intro K1180 hK1180
    refine wp_region_lit ?_
    refine sA hS hR (Yld.move hS rfl) (by decide) ?_; clear hS; intro aa hS
    refine sA hS hR (Yld.neq hS rfl rfl) (by decide) ?_; clear hS; intro aa hS
    replace hS := hS.sayB (t := 49) true rfl (by exact decide_eq_true (by omega))
    refine wpList_nil ?_
    refine hK1180 _ _ ?_
    refine condT hS rfl ?_
    refine wp_exit ?_
    refine hK1162 _ _ ?_
    refine wp_region_lit ?_
    refine sA hS hR ((by first | exact Yld.add64 hS rfl rfl (by omega) | exact Yld.add hS rfl rfl)) (by decide) ?_; clear hS; intro aa hS
    refine sA hS hR (Yld.move hS rfl) (by decide) ?_; clear hS; intro aa hS
    refine wpList_nil ?_
    have hT2 := hTn.trans ee3
    have hRn : RowsA 8 ys (rowS (fT S lim xs (k + 1))) := by rw [hT2]; exact hRA
    rw [← hT2] at hR
    refine ⟨(k + 1, _), ?_, ?_, hS.le (Le.cons rfl (Le.nilapp (Le.cons rfl (Le.cons rfl (Le.cons rfl (Le.cons rfl (Le.cons rfl (Le.nil _)))))))), hR.sub (Ex.take pkQ (Ex.take pkQ (Ex.take pkQ (Ex.nilapp exQ))))⟩
    ·
     exact ⟨by dsimp only; omega, hRn⟩
    ·
     dsimp only; omega
   ·
    refine sB (Balloc hS hR info30 (by rfl) (by rfl) (by decide) ?_); clear hS hR; intro aa ww bb12 hS hR
    refine sB (Bstore hS hR rfl rfl (by rfl) info30 (by rfl) pkQ (by rfl) (Nat.le_of_ble_eq_true rfl) ?_); clear hR; intro ww hR
    refine wpList_nil ?_
    refine hK1163 _ _ ?_
    refine wp_seq_k ?_; intro K1181 hK1181
    refine wp_region_lit ?_
    refine sA hS hR (Yld.move hS rfl) (by decide) ?_; clear hS; intro aa hS
    refine sA hS hR (Yld.move hS rfl) (by decide) ?_; clear hS; intro aa hS
    refine sA hS hR (Yld.loadAgg hS rfl Try.underlying30 rfl info30 (by first | exact Rds.cons (Rd.blk pkQ (by rfl)) (Rds.cons (Rd.blk pkQ (by rfl)) (Rds.cons (Rd.blk pkQ (by rfl)) (Rds.nil))) | exact Rds.rec pkQ (by intro _; rfl) (by omega) | exact Rds.flat1 pkQ (by intro _; rfl) (by omega)) (by rfl)) (by decide) ?_; clear hS; intro aa hS
    obtain ⟨q0, hoo⟩ : ∃ q0, ofO T.O (sl : Int) = some q0 := by
     cases hv : ofO T.O (sl : Int) with
     | none => exact absurd hv hn
     | some o => exact ⟨o, rfl⟩
    have hq0 := hLow.of hSF hoo
    obtain ⟨ad, rfl⟩ : ∃ y : Nat, q0 = (y : Int) := ⟨q0.toNat, by omega⟩
    have hadl : ad < 8 := by omega
    obtain ⟨h1, h2⟩ := cls_ok (S := S) (T := T) hslS hoo
    obtain ⟨s9, e9, hm9⟩ := ofO_in hoo
    obtain rfl : sl = s9 := by omega
    obtain ⟨ee1, ee2, ee3⟩ := act_close (S := S) (lim := lim) (T := T) (a := s1) (z := s2) hev
    rw [hsl] at ee1 ee2 ee3
    rw [hoo] at ee1
    rw [h1] at ee2
    rw [h2] at ee3
    refine sB (Bcall hS rfl Try.call12 (act31_ok (k := s0) (a := s1) (z := s2) (by omega) (by omega) hw0 hw1 (hR.pk (r := sourceA _ b _ _ _) pkQ)) (by decide) ?_); clear hS; intro aa ww vv hS hp
    clear hR
    obtain ⟨rfl, hR⟩ := hp
    rw [ee1, hsl, ee2] at hS; rw [ee3] at hR
    try dsimp only [Option.getD] at hS
    refine sA hS hR (Yld.move hS rfl) (by decide) ?_; clear hS; intro aa hS
    refine sA hS hR (Yld.extract hS rfl rfl) (by decide) ?_; clear hS; intro aa hS
    refine sA hS hR (Yld.extract hS rfl rfl) (by decide) ?_; clear hS; intro aa hS
    refine sA hS hR (Yld.extract hS rfl rfl) (by decide) ?_; clear hS; intro aa hS
    refine sB (Balloc hS hR info3 (by rfl) (by rfl) (by decide) ?_); clear hS hR; intro aa ww bb14 hS hR
    refine sA hS hR (Yld.assign hS rfl) (by decide) ?_; clear hS; intro aa hS
    refine sB (Bstore hS hR rfl rfl (by rfl) info3 (by rfl) pkQ (by rfl) (Nat.le_of_ble_eq_true rfl) ?_); clear hR; intro ww hR
    refine sA hS hR (Yld.assign hS rfl) (by decide) ?_; clear hS; intro aa hS
    refine wpList_nil ?_
    refine hK1181 _ _ ?_
    refine wp_seq_k ?_; intro K1182 hK1182
    refine wp_seq_k ?_; intro K1183 hK1183
    refine wp_region_lit ?_
    refine sA hS hR (Yld.move hS rfl) (by decide) ?_; clear hS; intro aa hS
    refine sA hS hR (Yld.neq hS rfl rfl) (by decide) ?_; clear hS; intro aa hS
    replace hS := hS.sayB (t := 49) false rfl (by exact decide_eq_false (by omega))
    refine wpList_nil ?_
    refine hK1183 _ _ ?_
    refine condF hS rfl ?_
    refine wp_skip ?_
    refine hK1182 _ _ ?_
    refine wp_seq_k ?_; intro K1184 hK1184
    refine wp_seq_k ?_; intro K1185 hK1185
    refine wp_region_lit ?_
    refine sA hS hR (Yld.move hS rfl) (by decide) ?_; clear hS; intro aa hS
    refine sA hS hR (Yld.gtr hS rfl rfl) (by decide) ?_; clear hS; intro aa hS
    replace hS := hS.sayB (t := 51) false rfl (by exact decide_eq_false (by omega))
    refine wpList_nil ?_
    refine hK1185 _ _ ?_
    refine condF hS rfl ?_
    refine wp_skip ?_
    refine hK1184 _ _ ?_
    refine wp_seq_k ?_; intro K1186 hK1186
    refine wp_seq_k ?_; intro K1187 hK1187
    refine wp_region_lit ?_
    refine sA hS hR (Yld.fieldAddr hS rfl 0 Try.underlying30 rfl rfl info5 (by decide)) (by decide) ?_; clear hS; intro aa hS
    refine sA hS hR (Yld.load1 hS rfl Try.underlying5 rfl (by first | exact Rd.blk pkQ (by rfl) | exact Rd.rec pkQ (by intro _; rfl) (by omega) rfl | exact Rd.rec0 pkQ (by intro _; rfl) (by omega) rfl | exact Rd.flatJ pkQ (by intro _; rfl) (by omega) rfl | exact Rd.flat0 pkQ (by intro _; rfl) (by omega) rfl)) (by decide) ?_; clear hS; intro aa hS
    refine sA hS hR ((by first | exact Yld.rem64 hS rfl rfl (by omega) | exact Yld.rem hS rfl rfl (by omega))) (by decide) ?_; clear hS; intro aa hS
    refine sA hS hR (Yld.eql hS rfl rfl) (by decide) ?_; clear hS; intro aa hS
    replace hS := hS.sayB (t := 55) false rfl (by exact decide_eq_false (by omega))
    refine wpList_nil ?_
    refine hK1187 _ _ ?_
    refine condF hS rfl ?_
    refine wp_skip ?_
    refine hK1186 _ _ ?_
    refine wp_region_lit ?_
    refine sA hS hR (Yld.move hS rfl) (by decide) ?_; clear hS; intro aa hS
    refine sA hS hR (Yld.move hS rfl) (by decide) ?_; clear hS; intro aa hS
    refine sA hS hR (Yld.to (u := .pointer (some ⟨bb10, ad * 1, none⟩)) (Yld.indexArr hS rfl rfl Try.underlying66 info40 (by omega) (by omega)) (by have h1 : (Try.t40).size = 1 := rfl; rw [h1]; congr 3 <;> omega)) (by decide) ?_; clear hS; intro aa hS
    dsimp only [lay, List.set] at hR
    obtain ⟨rr, rc, hrow⟩ := hRA.at' ad (by omega)
    have hry : ys[ad]'(by omega) = ((rr, rc), rowS T ad) := (List.getElem?_eq_some_iff.1 hrow).2
    have hrl : (rowS T ad).length ≤ 60 := by rw [cst_len]; have := hsl1 (ad : Int); omega
    replace hR := (hR.pk (r := rowsG _ _ _ ys) pkQ).rowGAt hrow
    dsimp only at hR
    refine sA hS hR (Yld.load1 hS rfl Try.underlying40 rfl (Rd.flat0 (sz := 1) (k := ad) (xs := ys) (v := .slice rr (rowS T ad).length rc) pkQ (by intro _; rfl) (by omega) (by rw [hry]; rfl))) (by decide) ?_; clear hS; intro aa hS
    refine sA hS hR (Yld.makeFunc hS rfl rfl) (by decide) ?_; clear hS; intro aa hS
    refine sB (Bcall hS rfl Try.call28 (sod_ok (xs := rowS T ad) (z := (sl : Int)) (r := rr) (c := rc) (bz := bb14) (by omega) ((hR.pk (r := blk bb14 _ _) pkQ).pk (r := sls rr _ _ _ _ _) pkQ)) (by decide) ?_); clear hS; intro aa ww vv hS hp
    clear hR
    obtain ⟨rfl, hR⟩ := hp
    refine sA hS hR (Yld.to (u := .pointer (some ⟨bb10, ad, none⟩)) (Yld.indexArr hS rfl rfl Try.underlying66 info40 (by omega) (by omega)) (by have h1 : (Try.t40).size = 1 := rfl; rw [h1]; congr 3 <;> omega)) (by decide) ?_; clear hS; intro aa hS
    refine sB (BstoreG (ys := ys) (xs := butZ (rowS T ad) (sl : Int)) hS hR rfl rfl info40 rfl pkQ (by omega) rfl ?_); clear hR; intro ww hR
    refine wpList_nil ?_
    refine hK1162 _ _ ?_
    refine wp_region_lit ?_
    refine sA hS hR ((by first | exact Yld.add64 hS rfl rfl (by omega) | exact Yld.add hS rfl rfl)) (by decide) ?_; clear hS; intro aa hS
    refine sA hS hR (Yld.move hS rfl) (by decide) ?_; clear hS; intro aa hS
    refine wpList_nil ?_
    have hT2 := hTn.trans ee3
    replace hR := Sep.rowGSet (i := ad) (ys := ys) ((hR.pk (r := rowsG _ _ _ (ys.take _ ++ _)) pkQ).pk (r := sls rr _ _ _ _ _) pkQ) rfl (by omega)
    have hRn := (hRA.set (k := ad) hadl (r := rr) (c := rc) (M := butZ (rowS T ad) (sl : Int))).ext (R' := rowS (fT S lim xs (k + 1))) fun j _ => by rw [hT2, rowS_rem hSF hm9]
    rw [← hT2] at hR
    refine ⟨(k + 1, _), ?_, ?_, hS.le (Le.cons rfl (Le.nilapp (Le.cons rfl (Le.cons rfl (Le.cons rfl (Le.cons rfl (Le.cons rfl (Le.nil _)))))))), hR.sub (Ex.take pkQ (Ex.take pkQ (Ex.take pkQ (Ex.nilapp exQ))))⟩
    ·
     exact ⟨by dsimp only; omega, hRn⟩
    ·
     dsimp only; omega
 ·
  intro hg hS
  obtain rfl : mm = k := by omega
  have hSF := fT_SF (S := S) (lim := lim) (xs := xs) (i := mm) (by omega) (by omega)
  have hLow := fT_Low (S := S) (lim := lim) (xs := xs) (i := mm)
  obtain ⟨T, hTe⟩ : ∃ y, fT S lim xs mm = y := ⟨_, rfl⟩
  rw [hTe] at hR hSF hLow hRA
  have hol := hSF.olen
  have hrl := hSF.rlen
  have hal := hSF.allLen
  have hsl1 := fun a => Nat.le_trans (slO_len (O := T.O) (a := a)) hol
  refine condF hS rfl ?_
  refine wp_exit ?_
  refine hK1157 _ _ ?_
  refine wp_seq_k ?_; intro K1188 hK1188
  refine wp_region_lit ?_
  refine sA hS hR (Yld.assign hS rfl) (by decide) ?_; clear hS; intro aa hS
  refine wpList_nil ?_
  refine hK1188 _ _ ?_
  refine wp_seq_k ?_; intro K1189 hK1189
  refine wp_seq_k ?_; intro K1190 hK1190
  refine wp_region_lit ?_
  refine sA hS hR (Yld.loadAgg (vs := ys.flatMap eRG) hS rfl Try.underlying66 rfl info66 (Rds.blk0 pkQ) (by rw [rowE_len, hRA.len]; rfl)) (by decide) ?_; clear hS; intro aa hS
  refine sA hS hR (Yld.move hS rfl) (by decide) ?_; clear hS; intro aa hS
  refine wpList_nil ?_
  refine hK1190 _ _ ?_
  refine wp_block ?_
  replace hR := hR.slsNil (T := 28) (sz := 1)
  replace hR := hR.pk (r := rowsG 3 1 e1 ys) pkQ
  replace hR := hR.pk (r := sls none 0 0 28 1 []) pkQ
  refine loopI (X := Nat × Option Addr × Nat) [(7, _), (72, _)] (fun x => [(16, .slice x.2.1 (lowN T x.1).length x.2.2), (73, .int .i64 (x.1 : Int))]) (fun x => [sls x.2.1 (lowN T x.1).length x.2.2 28 1 ((lowN T x.1).flatMap eU), rowsG 3 1 e1 ys]) _ (fun x => x.1 ≤ 8) (fun x => 8 - x.1) (0, none, 0) (Nat.zero_le _) (hS.le (Le.cons rfl (Le.cons rfl (Le.nilapp (Le.cons rfl (Le.cons rfl (Le.nil _))))))) hR ?_
  clear hS hR; rintro ⟨j, r0, c0⟩ aa ww hI hS hR; dsimp only [List.cons_append, List.nil_append] at hI hS hR
  refine wp_seq_k ?_; intro K1192 hK1192
  refine wp_region_lit ?_
  refine sA hS hR (Yld.lss hS rfl rfl) (by decide) ?_; clear hS; intro aa hS
  refine wpList_nil ?_
  refine hK1192 _ _ ?_
  refine wp_seq_k ?_; intro K1193 hK1193
  refine hS.splitB (t := 74) rfl ?_ ?_ <;> clear hS
  ·
   intro hg hS
   have hls := low_succ (T := T) (i := j)
   have hll := low_len (T := T) (i := j)
   have hcl := cst_len (l := slO T.O (j : Int))
   have hsj := hsl1 (j : Int)
   have hrj : (rowS T j).length = (slO T.O (j : Int)).length := cst_len
   refine condT hS rfl ?_
   refine wp_skip ?_
   refine hK1193 _ _ ?_
   refine wp_seq_k ?_; intro K1194 hK1194
   refine wp_block ?_
   refine wp_seq_k ?_; intro K1195 hK1195
   refine wp_region_lit ?_
   refine sA hS hR (Yld.move hS rfl) (by decide) ?_; clear hS; intro aa hS
   obtain ⟨rr, rc, hrow⟩ := hRA.at' j (by omega)
   have hry : ys[j]'(by omega) = ((rr, rc), rowS T j) := (List.getElem?_eq_some_iff.1 hrow).2
   have hrl : (rowS T j).length ≤ 60 := by rw [cst_len]; have := hsl1 (j : Int); omega
   refine sA hS hR (Yld.indexW (m := j) hS rfl rfl Try.underlying66 info40 rfl (fun w => by kernel_rfl) (by omega) (rowE_get hrow)) (by decide) ?_; clear hS; intro aa hS
   refine sA hS hR (Yld.assign hS rfl) (by decide) ?_; clear hS; intro aa hS
   refine sA hS hR (Yld.assign hS rfl) (by decide) ?_; clear hS; intro aa hS
   refine wpList_nil ?_
   refine hK1195 _ _ ?_
   refine wp_seq_k ?_; intro K1196 hK1196
   refine wp_seq_k ?_; intro K1197 hK1197
   refine wp_region_lit ?_
   refine sA hS hR (Yld.move hS rfl) (by decide) ?_; clear hS; intro aa hS
   refine sA hS hR (Yld.move hS rfl) (by decide) ?_; clear hS; intro aa hS
   refine sA hS hR ((by first | exact Yld.to (Yld.convInt hS rfl rfl Try.underlying28) (congrArg (Value.int .u32) (IntWalk.u32_in _ (by omega))) | exact Yld.convInt hS rfl rfl Try.underlying28)) (by decide) ?_; clear hS; intro aa hS
   refine sB (Bcall hS rfl Try.call22 (soSlots_ok (a := (j : Int)) (by omega) (hR.pk (r := sourceA _ b _ _ _) pkQ)) (by decide) ?_); clear hS; intro aa ww vv hS hp
   clear hR
   obtain ⟨ra, ca, rfl, hR⟩ := hp
   refine sA hS hR (Yld.move hS rfl) (by decide) ?_; clear hS; intro aa hS
   replace hR := (hR.pk (r := rowsG _ _ _ ys) pkQ).rowGAt hrow
   dsimp only at hR
   refine sB (Bcall hS rfl Try.call26 (eqI_ok (xs := cst (slO T.O (j : Int))) (ys := rowS T j) (q1 := ra) (c1 := ca) (q2 := rr) (c2 := rc) (by omega) (by omega) ((hR.pk (r := sls rr _ _ _ _ _) pkQ).pk (r := sls ra _ _ _ _ _) pkQ)) (by decide) ?_); clear hS; intro aa ww vv hS hp
   clear hR
   obtain ⟨rfl, hR⟩ := hp
   rw [decide_eq_true rfl] at hS
   replace hR := Sep.rowGBack (i := j) (ys := ys) (rr := rr) (rc := rc) (xs := rowS T j) ((hR.pk (r := rowsG _ _ _ (ys.take _ ++ _)) pkQ).pk (r := sls rr _ _ _ _ _) pkQ) hrow
   refine sA hS hR (Yld.not hS rfl) (by decide) ?_; clear hS; intro aa hS
   replace hS := hS.sayB (t := 83) false rfl (by rfl)
   refine wpList_nil ?_
   refine hK1197 _ _ ?_
   refine condF hS rfl ?_
   refine wp_skip ?_
   refine hK1196 _ _ ?_
   refine wp_seq_k ?_; intro K1198 hK1198
   refine wp_region_lit ?_
   refine sA hS hR (Yld.move hS rfl) (by decide) ?_; clear hS; intro aa hS
   refine sA hS hR (Yld.len hS rfl Try.underlying40) (by decide) ?_; clear hS; intro aa hS
   refine sA hS hR (Yld.gtr hS rfl rfl) (by decide) ?_; clear hS; intro aa hS
   refine wpList_nil ?_
   refine hK1198 _ _ ?_
   refine hS.splitB (t := 86) rfl ?_ ?_ <;> clear hS
   ·
    intro hg hS
    rw [if_pos (by omega)] at hls
    refine condT hS rfl ?_
    refine wp_region_lit ?_
    refine sA hS hR (Yld.move hS rfl) (by decide) ?_; clear hS; intro aa hS
    refine sA hS hR (Yld.move hS rfl) (by decide) ?_; clear hS; intro aa hS
    refine sA hS hR ((by first | exact Yld.to (Yld.convInt hS rfl rfl Try.underlying28) (congrArg (Value.int .u32) (IntWalk.u32_in _ (by omega))) | exact Yld.convInt hS rfl rfl Try.underlying28)) (by decide) ?_; clear hS; intro aa hS
    refine sB (BbuildSlice hS hR rfl (bls46_1_0 _) (by decide) ?_); clear hS hR; intro aa ww bb90 hS hR
    refine sB (BappendR (sz := 1) hS hR rfl rfl Try.underlying46 info28 rfl rfl (by rfl) pkQ (XC.one ((j : Int)) pkQ (by rfl) rfl) (by intro _; rfl) (by show (_ + _) * 4 ≤ _; first | omega | (simp only [List.length_take, List.length_append, List.length_drop, List.length_cons, List.length_nil, List.length_map]; omega)) (by first | omega | (simp only [List.length_take, List.length_append, List.length_drop, List.length_cons, List.length_nil, List.length_map]; omega)) (by first | rfl | (simp; done) | (simp; omega)) (by decide) ?_); clear hS hR; intro aa ww r91 c91 hS hR
    rw [← hls] at hS hR
    refine sA hS hR (Yld.assign hS rfl) (by decide) ?_; clear hS; intro aa hS
    refine wpList_nil ?_
    refine hK1194 _ _ ?_
    refine wp_region_lit ?_
    refine sA hS hR ((by first | exact Yld.add64 hS rfl rfl (by omega) | exact Yld.add hS rfl rfl)) (by decide) ?_; clear hS; intro aa hS
    refine sA hS hR (Yld.move hS rfl) (by decide) ?_; clear hS; intro aa hS
    refine wpList_nil ?_
    
    refine ⟨(j + 1, _, _), ?_, ?_, hS.le (Le.cons rfl (Le.cons rfl (Le.nilapp (Le.cons rfl (Le.cons rfl (Le.nil _)))))), hR.sub (Ex.take pkQ (Ex.take pkQ (Ex.nilapp exQ)))⟩
    ·
     dsimp only; omega
    ·
     dsimp only; omega
   ·
    intro hg hS
    rw [if_neg (by omega)] at hls
    rw [← hls] at hS hR
    refine condF hS rfl ?_
    refine wp_skip ?_
    refine hK1194 _ _ ?_
    refine wp_region_lit ?_
    refine sA hS hR ((by first | exact Yld.add64 hS rfl rfl (by omega) | exact Yld.add hS rfl rfl)) (by decide) ?_; clear hS; intro aa hS
    refine sA hS hR (Yld.move hS rfl) (by decide) ?_; clear hS; intro aa hS
    refine wpList_nil ?_
    
    refine ⟨(j + 1, _, _), ?_, ?_, hS.le (Le.cons rfl (Le.cons rfl (Le.nilapp (Le.cons rfl (Le.cons rfl (Le.nil _)))))), hR.sub (Ex.take pkQ (Ex.take pkQ (Ex.nilapp exQ)))⟩
    ·
     dsimp only; omega
    ·
     dsimp only; omega
  ·
   intro hg hS
   obtain rfl : j = 8 := by omega
   rw [hSF.low hLow] at hS hR
   refine condF hS rfl ?_
   refine wp_exit ?_
   refine hK1189 _ _ ?_
   refine wp_seq_k ?_; intro K1199 hK1199
   refine wp_region_lit ?_
   refine sA hS hR (Yld.move hS rfl) (by decide) ?_; clear hS; intro aa hS
   refine sB (Bcall hS rfl Try.call23 (soAll_ok (hR.pk (r := sourceA _ b _ _ _) pkQ)) (by decide) ?_); clear hS; intro aa ww vv hS hp
   clear hR
   obtain ⟨ra, ca, rfl, hR⟩ := hp
   refine sA hS hR (Yld.move hS rfl) (by decide) ?_; clear hS; intro aa hS
   refine sB (Bcall hS rfl Try.call27 (eqU_ok (xs := allR T.R) (ys := allR T.R) (q1 := ra) (c1 := ca) (q2 := r0) (c2 := c0) (by omega) (by omega) ((hR.pk (r := sls r0 _ _ _ _ _) pkQ).pk (r := sls ra _ _ _ _ _) pkQ)) (by decide) ?_); clear hS; intro aa ww vv hS hp
   clear hR
   obtain ⟨rfl, hR⟩ := hp
   rw [decide_eq_true rfl] at hS
   refine sA hS hR (Yld.assign hS rfl) (by decide) ?_; clear hS; intro aa hS
   refine wpList_nil ?_
   refine hK1199 _ _ ?_
   refine wp_ret ?_
   repeat (first | with_reducible refine thenR ?_ | with_reducible refine blockR ?_ | with_reducible refine scopeR ?_)
   refine ret1 (fn := Try.f9) (e := .ret) (.inl rfl) Try.results9 hS hR ⟨_, (.tmp rfl), ?_⟩
   exact ⟨rfl, (hR.sub exQ)⟩
end Go.Proofs.Ythjfclljjcpikaa.Sx
