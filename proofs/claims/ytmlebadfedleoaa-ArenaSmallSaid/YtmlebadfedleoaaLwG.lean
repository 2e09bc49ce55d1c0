/-
  
-/
import Derived.Test.YtmlebadfedleoaaLwF
namespace Go.Proofs.Ytmlebadfedleoaa.Sx
open Go
set_option linter.unusedVariables false
set_option linter.unusedSimpArgs false

theorem info23 : Try.prog.info? 23 = some Try.t23 := by kernel_rfl
theorem bld51_  (w : World) : (Instr.build 51 [].toArray).run Try.prog w = .ok (.agg [.int .u8 0, .int .i64 0, .int .i64 0].toArray) w := by kernel_rfl
theorem bld51_0 (x0 : Int) (w : World) : (Instr.build 51 [(0, .int .u8 x0)].toArray).run Try.prog w = .ok (.agg [.int .u8 x0, .int .i64 0, .int .i64 0].toArray) w := by kernel_rfl
theorem bld51_0_1 (x0 : Int) (x1 : Int) (w : World) : (Instr.build 51 [(0, .int .u8 x0), (1, .int .i64 x1)].toArray).run Try.prog w = .ok (.agg [.int .u8 x0, .int .i64 x1, .int .i64 0].toArray) w := by kernel_rfl
theorem bld51_0_1_2 (x0 : Int) (x1 : Int) (x2 : Int) (w : World) : (Instr.build 51 [(0, .int .u8 x0), (1, .int .i64 x1), (2, .int .i64 x2)].toArray).run Try.prog w = .ok (.agg [.int .u8 x0, .int .i64 x1, .int .i64 x2].toArray) w := by kernel_rfl
theorem bld57_  (w : World) : (Instr.build 57 [].toArray).run Try.prog w = .ok (.agg [.slice none 0 0, .int .i64 0, .int .i64 0].toArray) w := by kernel_rfl
theorem bls36_6_0_1_2_3_4_5 (x0 : Int) (x1 : Int) (x2 : Int) (x3 : Int) (x4 : Int) (x5 : Int) (w : World) : (Instr.buildSlice 36 6 [(0, .int .i64 x0), (1, .int .i64 x1), (2, .int .i64 x2), (3, .int .i64 x3), (4, .int .i64 x4), (5, .int .i64 x5)].toArray).run Try.prog w = .ok (.slice (some ⟨w.heap.size, 0, none⟩) 6 6) (w.alloc (.cells ([.int .i64 x0, .int .i64 x1, .int .i64 x2, .int .i64 x3, .int .i64 x4, .int .i64 x5] : List Value).toArray 3)) := by kernel_rfl
theorem bls46_7_0_1_2_3_4_5_6 (x0_0 : Int) (x0_1 : Int) (x0_2 : Int) (x1_0 : Int) (x1_1 : Int) (x1_2 : Int) (x2_0 : Int) (x2_1 : Int) (x2_2 : Int) (x3_0 : Int) (x3_1 : Int) (x3_2 : Int) (x4_0 : Int) (x4_1 : Int) (x4_2 : Int) (x5_0 : Int) (x5_1 : Int) (x5_2 : Int) (x6_0 : Int) (x6_1 : Int) (x6_2 : Int) (w : World) : (Instr.buildSlice 46 7 [(0, .agg [.int .u8 x0_0, .int .i64 x0_1, .int .i64 x0_2].toArray), (1, .agg [.int .u8 x1_0, .int .i64 x1_1, .int .i64 x1_2].toArray), (2, .agg [.int .u8 x2_0, .int .i64 x2_1, .int .i64 x2_2].toArray), (3, .agg [.int .u8 x3_0, .int .i64 x3_1, .int .i64 x3_2].toArray), (4, .agg [.int .u8 x4_0, .int .i64 x4_1, .int .i64 x4_2].toArray), (5, .agg [.int .u8 x5_0, .int .i64 x5_1, .int .i64 x5_2].toArray), (6, .agg [.int .u8 x6_0, .int .i64 x6_1, .int .i64 x6_2].toArray)].toArray).run Try.prog w = .ok (.slice (some ⟨w.heap.size, 0, none⟩) 7 7) (w.alloc (.cells ([.int .u8 x0_0, .int .i64 x0_1, .int .i64 x0_2, .int .u8 x1_0, .int .i64 x1_1, .int .i64 x1_2, .int .u8 x2_0, .int .i64 x2_1, .int .i64 x2_2, .int .u8 x3_0, .int .i64 x3_1, .int .i64 x3_2, .int .u8 x4_0, .int .i64 x4_1, .int .i64 x4_2, .int .u8 x5_0, .int .i64 x5_1, .int .i64 x5_2, .int .u8 x6_0, .int .i64 x6_1, .int .i64 x6_2] : List Value).toArray 51)) := by kernel_rfl
theorem bls58_2_0_1 (x0 : Option Addr) (x1 : Option Addr) (w : World) : (Instr.buildSlice 58 2 [(0, .pointer x0), (1, .pointer x1)].toArray).run Try.prog w = .ok (.slice (some ⟨w.heap.size, 0, none⟩) 2 2) (w.alloc (.cells ([.pointer x0, .pointer x1] : List Value).toArray 23)) := by kernel_rfl

def eA (r : Int × Int × Int) : List Value := [.int .u8 r.1, .int .i64 r.2.1, .int .i64 r.2.2]
def eP (p : Option Addr) : List Value := [.pointer p]
set_option maxHeartbeats 8000000 in
set_option maxRecDepth 20000 in
theorem ArenaSmall_ok {l : List HP} {w : World} (hR : Sep l w) : CallR Try.prog 8 ([] : List Value) w (fun v w' => v = .bool true ∧ Sep l w') := by
  refine enter Try.func8 rfl Try.ntmps8 (Nat.le_of_ble_eq_true rfl) ?_; intro aa hS
  refine wp_seq_k ?_; intro K651 hK651
  refine wp_region_lit ?_
  refine sA hS hR (Yld.assign hS rfl) (by decide) ?_; clear hS; intro aa hS
  refine wpList_nil ?_
  refine hK651 _ _ ?_
  refine wp_seq_k ?_; intro K652 hK652
  refine wp_region_lit ?_
  refine sA hS hR (Yld.build hS rfl (bld51_)) (by decide) ?_; clear hS; intro aa hS
  refine sA hS hR (Yld.build hS rfl (bld51_0 _)) (by decide) ?_; clear hS; intro aa hS
  refine sA hS hR (Yld.build hS rfl (bld51_0_1 _ _)) (by decide) ?_; clear hS; intro aa hS
  refine sA hS hR (Yld.build hS rfl (bld51_0_1_2 _ _ _)) (by decide) ?_; clear hS; intro aa hS
  refine sA hS hR (Yld.build hS rfl (bld51_0 _)) (by decide) ?_; clear hS; intro aa hS
  refine sA hS hR (Yld.build hS rfl (bld51_0_1 _ _)) (by decide) ?_; clear hS; intro aa hS
  refine sA hS hR (Yld.build hS rfl (bld51_0_1 _ _)) (by decide) ?_; clear hS; intro aa hS
  refine sB (BbuildSlice hS hR rfl (bls46_7_0_1_2_3_4_5_6 _ _ _ _ _ _ _ _ _ _ _ _ _ _ _ _ _ _ _ _ _) (by decide) ?_); clear hS hR; intro aa ww bb26 hS hR
  replace hR := hR.pk (r := blk bb26 _ _) (by repeat (first | with_reducible exact Pk.here | with_reducible apply Pk.there))
  replace hR := Sep.toRecs (m := 7) (sz := 3) (enc := eA) [(0, 0, 0), (3, 0, 0), (3, 1, 0), (5, 0, 1), (6, 0, 0), (3, 2, 0), (5, -1, 0)] hR rfl (by intro _; rfl) rfl
  obtain ⟨rs, hrl, hC26, hR⟩ : ∃ rs : List (Int × Int × Int), rs.length = 7 ∧ (∀ r ∈ rs, 0 ≤ r.1) ∧ Sep (sls (some ⟨bb26, 0, none⟩) 7 7 51 3 (rs.flatMap eA) :: _) _ := ⟨_, rfl, by decide, hR⟩
  refine sA hS hR (Yld.assign hS rfl) (by decide) ?_; clear hS; intro aa hS
  refine wpList_nil ?_
  refine hK652 _ _ ?_
  refine wp_seq_k ?_; intro K653 hK653
  refine wp_seq_k ?_; intro K654 hK654
  refine wp_region_lit ?_
  refine sA hS hR (Yld.assign hS rfl) (by decide) ?_; clear hS; intro aa hS
  refine wpList_nil ?_
  refine hK654 _ _ ?_
  refine wp_block ?_
  refine loopI (X := Nat) [(1, _)] (fun x => [(2, .int .i64 (x : Int))]) (fun x => []) _ (fun x => 1 ≤ x ∧ x ≤ 4) (fun x => 4 - x) 1 ⟨by omega, by omega⟩ (hS.le (Le.cons rfl (Le.nilapp (Le.cons rfl (Le.nil _))))) hR ?_
  clear hS hR; rintro m aa ww hI hS hR; dsimp only [List.cons_append, List.nil_append] at hI hS hR
  refine wp_seq_k ?_; intro K656 hK656
  refine wp_seq_k ?_; intro K657 hK657
  refine wp_region_lit ?_
  refine sA hS hR (Yld.move hS rfl) (by decide) ?_; clear hS; intro aa hS
  refine sA hS hR (Yld.leq hS rfl rfl) (by decide) ?_; clear hS; intro aa hS
  refine wpList_nil ?_
  refine hK657 _ _ ?_
  refine hS.splitB (t := 28) rfl ?_ ?_ <;> clear hS
  · intro hg hS
    refine condT hS rfl ?_
    refine wp_skip ?_
    refine hK656 _ _ ?_
    refine wp_seq_k ?_; intro K658 hK658
    refine wp_block ?_
    refine wp_seq_k ?_; intro K659 hK659
    refine wp_region_lit ?_
    refine sA hS hR (Yld.move hS rfl) (by decide) ?_; clear hS; intro aa hS
    refine wpList_nil ?_
    refine hK659 _ _ ?_
    refine wp_block ?_
    refine loopI (X := Nat) [(1, _), (2, _), (27, _), (28, _)] (fun x => [(31, .int .i64 (x : Int))]) (fun x => []) _ (fun x => x ≤ 16807) (fun x => 16807 - x) 0 (Nat.zero_le _) (hS.le (Le.cons rfl (Le.nilapp (Le.cons rfl (Le.cons rfl (Le.cons rfl (Le.cons rfl (Le.nil _)))))))) hR ?_
    clear hS hR; rintro wy aa ww hI hS hR; dsimp only [List.cons_append, List.nil_append] at hI hS hR
    refine wp_seq_k ?_; intro K661 hK661
    refine wp_region_lit ?_
    refine sA hS hR (Yld.lss hS rfl rfl) (by decide) ?_; clear hS; intro aa hS
    refine wpList_nil ?_
    refine hK661 _ _ ?_
    refine wp_seq_k ?_; intro K662 hK662
    refine hS.splitB (t := 32) rfl ?_ ?_ <;> clear hS
    · intro hg hS
      refine condT hS rfl ?_
      refine wp_skip ?_
      refine hK662 _ _ ?_
      refine wp_seq_k ?_; intro K663 hK663
      refine wp_block ?_
      refine wp_seq_k ?_; intro K664 hK664
      refine wp_region_lit ?_
      refine sA hS hR (Yld.move hS rfl) (by decide) ?_; clear hS; intro aa hS
      refine sA hS hR (Yld.assign hS rfl) (by decide) ?_; clear hS; intro aa hS
      refine wpList_nil ?_
      refine hK664 _ _ ?_
      refine wp_seq_k ?_; intro K665 hK665
      refine wp_region_lit ?_
      refine sA hS hR (Yld.move hS rfl) (by decide) ?_; clear hS; intro aa hS
      refine sB (Bcall hS rfl Try.call9 (New_ok hR (by omega)) (by decide) ?_); clear hS; intro aa ww vv hS hp
      clear hR
      obtain ⟨b, rfl, hR⟩ := hp
      rw [Int.toNat_natCast] at hR
      refine sA hS hR (Yld.move hS rfl) (by decide) ?_; clear hS; intro aa hS
      refine sA hS hR (Yld.extract hS rfl rfl) (by decide) ?_; clear hS; intro aa hS
      refine sA hS hR (Yld.extract hS rfl rfl) (by decide) ?_; clear hS; intro aa hS
      refine sA hS hR (Yld.assign hS rfl) (by decide) ?_; clear hS; intro aa hS
      refine sA hS hR (Yld.assign hS rfl) (by decide) ?_; clear hS; intro aa hS
      refine wpList_nil ?_
      refine hK665 _ _ ?_
      refine wp_seq_k ?_; intro K666 hK666
      refine wp_seq_k ?_; intro K667 hK667
      refine wp_region_lit ?_
      refine sA hS hR (Yld.move hS rfl) (by decide) ?_; clear hS; intro aa hS
      refine sA hS hR (Yld.neq hS rfl rfl) (by decide) ?_; clear hS; intro aa hS
      replace hS := hS.sayB (t := 40) false rfl (by simp)
      refine sA hS hR (Yld.move hS rfl) (by decide) ?_; clear hS; intro aa hS
      refine sAg hS hR rfl rfl (Yld.move hS rfl) (by decide) ?_; clear hS; intro aa hS
      refine sAg hS hR rfl rfl (Yld.eqlNil hS rfl rfl Try.underlying23) (by decide) ?_; clear hS; intro aa hS
      replace hS := hS.sayB (t := 43) false rfl (by rfl)
      refine sA hS hR (Yld.pickF hS rfl rfl) (by decide) ?_; clear hS; intro aa hS
      refine wpList_nil ?_
      refine hK667 _ _ ?_
      refine condF hS rfl ?_
      refine wp_skip ?_
      refine hK666 _ _ ?_
      refine wp_seq_k ?_; intro K668 hK668
      refine wp_region_lit ?_
      refine sA hS hR (Yld.move hS rfl) (by decide) ?_; clear hS; intro aa hS
      refine sB (Bcall hS rfl Try.call20 (RNew_ok hR (by omega)) (by decide) ?_); clear hS; intro aa ww vv hS hp
      clear hR
      obtain ⟨b2, rfl, hR⟩ := hp
      refine sA hS hR (Yld.assign hS rfl) (by decide) ?_; clear hS; intro aa hS
      refine wpList_nil ?_
      refine hK668 _ _ ?_
      refine wp_seq_k ?_; intro K669 hK669
      refine wp_seq_k ?_; intro K670 hK670
      refine wp_region_lit ?_
      refine sA hS hR (Yld.move hS rfl) (by decide) ?_; clear hS; intro aa hS
      refine sA hS hR (Yld.assign hS rfl) (by decide) ?_; clear hS; intro aa hS
      refine sA hS hR (Yld.assign hS rfl) (by decide) ?_; clear hS; intro aa hS
      refine wpList_nil ?_
      refine hK670 _ _ ?_
      refine wp_block ?_
      replace hR := hR.pk (r := rar 68 3 4 b2 (Ar.new m)) (by repeat (first | with_reducible exact Pk.here | with_reducible apply Pk.there))
      replace hR := hR.pk (r := arena 57 60 b (Ar.new m)) (by repeat (first | with_reducible exact Pk.here | with_reducible apply Pk.there))
      refine loopI (X := Nat × Nat × Ar) [(1, _), (2, _), (3, _), (4, _), (5, _), (6, _), (27, _), (28, _), (31, _), (32, _), (33, _), (34, _), (35, _), (36, _), (37, _), (38, _), (39, _), (40, _), (41, _), (42, _), (43, _), (44, _), (45, _), (46, _), (47, _)] (fun x => [(7, .int .i64 (x.1 : Int)), (8, .int .i64 (x.2.1 : Int))]) (fun x => [arena 57 60 b x.2.2, rar 68 3 4 b2 x.2.2]) _ (fun x => x.1 ≤ 5 ∧ x.2.1 ≤ 16807) (fun x => 5 - x.1) (0, wy, Ar.new m) ⟨Nat.zero_le _, by omega⟩ (hS.le (Le.cons rfl (Le.cons rfl (Le.nilapp (Le.cons rfl (Le.cons rfl (Le.cons rfl (Le.cons rfl (Le.cons rfl (Le.cons rfl (Le.cons rfl (Le.cons rfl (Le.cons rfl (Le.cons rfl (Le.cons rfl (Le.cons rfl (Le.cons rfl (Le.cons rfl (Le.cons rfl (Le.cons rfl (Le.cons rfl (Le.cons rfl (Le.cons rfl (Le.cons rfl (Le.cons rfl (Le.cons rfl (Le.cons rfl (Le.cons rfl (Le.cons rfl (Le.nil _)))))))))))))))))))))))))))))) hR ?_
      clear hS hR; rintro ⟨i, kq, A⟩ aa ww hI hS hR; dsimp only [List.cons_append, List.nil_append] at hI hS hR
      refine wp_seq_k ?_; intro K672 hK672
      refine wp_seq_k ?_; intro K673 hK673
      refine wp_region_lit ?_
      refine sA hS hR (Yld.move hS rfl) (by decide) ?_; clear hS; intro aa hS
      refine sA hS hR (Yld.lss hS rfl rfl) (by decide) ?_; clear hS; intro aa hS
      refine wpList_nil ?_
      refine hK673 _ _ ?_
      refine hS.splitB (t := 49) rfl ?_ ?_ <;> clear hS
      · intro hg hS
        refine condT hS rfl ?_
        refine wp_skip ?_
        refine hK672 _ _ ?_
        refine wp_seq_k ?_; intro K674 hK674
        refine wp_block ?_
        refine wp_seq_k ?_; intro K675 hK675
        refine wp_region_lit ?_
        refine sA hS hR (Yld.move hS rfl) (by decide) ?_; clear hS; intro aa hS
        refine sA hS hR (Yld.move hS rfl) (by decide) ?_; clear hS; intro aa hS
        refine sA hS hR (Yld.move hS rfl) (by decide) ?_; clear hS; intro aa hS
        refine sA hS hR (Yld.move hS rfl) (by decide) ?_; clear hS; intro aa hS
        refine sA hS hR ((by first | exact Yld.rem64 hS rfl rfl (by omega) | exact Yld.rem hS rfl rfl (by omega))) (by decide) ?_; clear hS; intro aa hS
        obtain ⟨kk, hkk, hkl⟩ := emod_nat (n := (kq : Int)) (d := 7) (m := 7) (by omega) (by omega)
        replace hS := hS.say (t := 58) (.int .i64 (kk : Int)) rfl (by rw [hkk])
        refine sA hS hR ((by first | exact Yld.indexL (sz := 3) _ hS rfl rfl Try.underlying46 info51 (by repeat (first | with_reducible exact Pk.here | with_reducible apply Pk.there)) rfl rfl (by omega) | exact Yld.indexB (sz := 3) _ hS rfl rfl Try.underlying46 info51 rfl rfl (by omega) | exact Yld.indexSlice hS rfl rfl Try.underlying46 info51 (by omega) (by omega))) (by decide) ?_; clear hS; intro aa hS
        refine sA hS hR (Yld.loadAgg hS rfl Try.underlying51 rfl info51 (by first | exact Rds.cons (Rd.blk (by repeat (first | with_reducible exact Pk.here | with_reducible apply Pk.there)) (by rfl)) (Rds.cons (Rd.blk (by repeat (first | with_reducible exact Pk.here | with_reducible apply Pk.there)) (by rfl)) (Rds.cons (Rd.blk (by repeat (first | with_reducible exact Pk.here | with_reducible apply Pk.there)) (by rfl)) (Rds.nil))) | exact Rds.rec (by repeat (first | with_reducible exact Pk.here | with_reducible apply Pk.there)) (by intro _; rfl) (by omega) | exact Rds.flat1 (by repeat (first | with_reducible exact Pk.here | with_reducible apply Pk.there)) (by intro _; rfl) (by omega)) (by rfl)) (by decide) ?_; clear hS; intro aa hS
        refine sB (Bcall hS rfl Try.call21 (act_ok ((hR.pk (r := rar _ _ _ _ _) (by repeat (first | with_reducible exact Pk.here | with_reducible apply Pk.there))).pk (r := arena _ _ _ _) (by repeat (first | with_reducible exact Pk.here | with_reducible apply Pk.there))) (hC26 _ (List.getElem_mem _))) (by decide) ?_); clear hS; intro aa ww vv hS hp
        clear hR
        obtain ⟨A2, rfl, hR⟩ := hp
        refine sA hS hR (Yld.not hS rfl) (by decide) ?_; clear hS; intro aa hS
        refine wpList_nil ?_
        refine hK675 _ _ ?_
        refine condF hS rfl ?_
        refine wp_skip ?_
        refine hK674 _ _ ?_
        refine wp_region_lit ?_
        refine sA hS hR (Yld.move hS rfl) (by decide) ?_; clear hS; intro aa hS
        refine sA hS hR ((by first | exact Yld.add64 hS rfl rfl (by omega) | exact Yld.add hS rfl rfl)) (by decide) ?_; clear hS; intro aa hS
        refine sA hS hR (Yld.move hS rfl) (by decide) ?_; clear hS; intro aa hS
        refine sA hS hR ((by first | exact Yld.quo64 hS rfl rfl (by omega) | exact Yld.quo hS rfl rfl (by omega))) (by decide) ?_; clear hS; intro aa hS
        replace hS := hS.say (t := 53) (.int .i64 ((kq / 7 : Nat) : Int)) rfl (by rw [show (kq : Int) / 7 = ((kq / 7 : Nat) : Int) from by omega])
        refine sA hS hR (Yld.assign hS rfl) (by decide) ?_; clear hS; intro aa hS
        refine sA hS hR (Yld.assign hS rfl) (by decide) ?_; clear hS; intro aa hS
        refine wpList_nil ?_
        
        refine ⟨(i + 1, kq / 7, _), ?_, ?_, hS.le (Le.cons rfl (Le.cons rfl (Le.nilapp (Le.cons rfl (Le.cons rfl (Le.cons rfl (Le.cons rfl (Le.cons rfl (Le.cons rfl (Le.cons rfl (Le.cons rfl (Le.cons rfl (Le.cons rfl (Le.cons rfl (Le.cons rfl (Le.cons rfl (Le.cons rfl (Le.cons rfl (Le.cons rfl (Le.cons rfl (Le.cons rfl (Le.cons rfl (Le.cons rfl (Le.cons rfl (Le.cons rfl (Le.cons rfl (Le.cons rfl (Le.cons rfl (Le.nil _))))))))))))))))))))))))))))), hR.sub (Ex.take (by repeat (first | with_reducible exact Pk.here | with_reducible apply Pk.there)) (Ex.take (by repeat (first | with_reducible exact Pk.here | with_reducible apply Pk.there)) (Ex.nilapp (by repeat (first | with_reducible exact Ex.refl | (with_reducible apply Ex.take; · repeat (first | with_reducible exact Pk.here | with_reducible apply Pk.there)) | with_reducible apply Ex.drop)))))⟩
        · dsimp only; omega
        · dsimp only; omega
      · intro hg hS
        refine condF hS rfl ?_
        refine wp_exit ?_
        refine hK669 _ _ ?_
        refine wp_seq_k ?_; intro K676 hK676
        refine wp_region_lit ?_
        refine sA hS hR (Yld.move hS rfl) (by decide) ?_; clear hS; intro aa hS
        refine sA hS hR (Yld.move hS rfl) (by decide) ?_; clear hS; intro aa hS
        refine sB (Bcall hS rfl Try.call22 (same_ok ((hR.pk (r := rar _ _ _ _ _) (by repeat (first | with_reducible exact Pk.here | with_reducible apply Pk.there))).pk (r := arena _ _ _ _) (by repeat (first | with_reducible exact Pk.here | with_reducible apply Pk.there)))) (by decide) ?_); clear hS; intro aa ww vv hS hp
        clear hR
        obtain ⟨rfl, hR⟩ := hp
        refine sA hS hR (Yld.not hS rfl) (by decide) ?_; clear hS; intro aa hS
        refine wpList_nil ?_
        refine hK676 _ _ ?_
        refine condF hS rfl ?_
        refine wp_skip ?_
        refine hK663 _ _ ?_
        refine wp_region_lit ?_
        refine sA hS hR ((by first | exact Yld.add64 hS rfl rfl (by omega) | exact Yld.add hS rfl rfl)) (by decide) ?_; clear hS; intro aa hS
        refine sA hS hR (Yld.move hS rfl) (by decide) ?_; clear hS; intro aa hS
        refine wpList_nil ?_
        
        refine ⟨wy + 1, ?_, ?_, hS.le (Le.cons rfl (Le.nilapp (Le.cons rfl (Le.cons rfl (Le.cons rfl (Le.cons rfl (Le.nil _))))))), hR.sub (Ex.nilapp (by repeat (first | with_reducible exact Ex.refl | (with_reducible apply Ex.take; · repeat (first | with_reducible exact Pk.here | with_reducible apply Pk.there)) | with_reducible apply Ex.drop)))⟩
        · omega
        · omega
    · intro hg hS
      refine condF hS rfl ?_
      refine wp_exit ?_
      refine hK658 _ _ ?_
      refine wp_region_lit ?_
      refine sA hS hR (Yld.move hS rfl) (by decide) ?_; clear hS; intro aa hS
      refine sA hS hR ((by first | exact Yld.add64 hS rfl rfl (by omega) | exact Yld.add hS rfl rfl)) (by decide) ?_; clear hS; intro aa hS
      refine sA hS hR (Yld.assign hS rfl) (by decide) ?_; clear hS; intro aa hS
      refine wpList_nil ?_
      
      refine ⟨m + 1, ?_, ?_, hS.le (Le.cons rfl (Le.nilapp (Le.cons rfl (Le.nil _)))), hR.sub (Ex.nilapp (by repeat (first | with_reducible exact Ex.refl | (with_reducible apply Ex.take; · repeat (first | with_reducible exact Pk.here | with_reducible apply Pk.there)) | with_reducible apply Ex.drop)))⟩
      · omega
      · omega
  · intro hg hS
    refine condF hS rfl ?_
    refine wp_exit ?_
    refine hK653 _ _ ?_
    refine wp_seq_k ?_; intro K677 hK677
    refine wp_seq_k ?_; intro K678 hK678
    refine wp_region_lit ?_
    refine sB (BbuildSlice hS hR rfl (bls36_6_0_1_2_3_4_5 _ _ _ _ _ _) (by decide) ?_); clear hS hR; intro aa ww bb68 hS hR
    replace hR := hR.pk (r := blk bb68 _ _) (by repeat (first | with_reducible exact Pk.here | with_reducible apply Pk.there))
    replace hR := Sep.toRecs (m := 6) (sz := 1) (enc := e1) [-1, 0, 1, 4096, 4097, 4611686018427387904] hR rfl (by intro _; rfl) rfl
    obtain ⟨ns, hnl, hR⟩ : ∃ ns : List Int, ns.length = 6 ∧ Sep (sls (some ⟨bb68, 0, none⟩) 6 6 3 1 (ns.flatMap e1) :: _) _ := ⟨_, rfl, hR⟩
    refine sA hS hR (Yld.len hS rfl Try.underlying36) (by decide) ?_; clear hS; intro aa hS
    refine sA hS hR (Yld.move hS rfl) (by decide) ?_; clear hS; intro aa hS
    refine wpList_nil ?_
    refine hK678 _ _ ?_
    refine wp_block ?_
    refine loopI (X := Nat) [(68, _), (69, _)] (fun x => [(70, .int .i64 (x : Int))]) (fun x => []) _ (fun x => x ≤ 6) (fun x => 6 - x) 0 (Nat.zero_le _) (hS.le (Le.cons rfl (Le.nilapp (Le.cons rfl (Le.cons rfl (Le.nil _)))))) hR ?_
    clear hS hR; rintro j aa ww hI hS hR; dsimp only [List.cons_append, List.nil_append] at hI hS hR
    refine wp_seq_k ?_; intro K680 hK680
    refine wp_region_lit ?_
    refine sA hS hR (Yld.lss hS rfl rfl) (by decide) ?_; clear hS; intro aa hS
    refine wpList_nil ?_
    refine hK680 _ _ ?_
    refine wp_seq_k ?_; intro K681 hK681
    refine hS.splitB (t := 71) rfl ?_ ?_ <;> clear hS
    · intro hg hS
      refine condT hS rfl ?_
      refine wp_skip ?_
      refine hK681 _ _ ?_
      refine wp_seq_k ?_; intro K682 hK682
      refine wp_block ?_
      refine wp_seq_k ?_; intro K683 hK683
      refine wp_region_lit ?_
      refine sA hS hR ((by first | exact Yld.indexL (sz := 1) _ hS rfl rfl Try.underlying36 info3 (by repeat (first | with_reducible exact Pk.here | with_reducible apply Pk.there)) rfl rfl (by omega) | exact Yld.indexB (sz := 1) _ hS rfl rfl Try.underlying36 info3 rfl rfl (by omega) | exact Yld.indexSlice hS rfl rfl Try.underlying36 info3 (by omega) (by omega))) (by decide) ?_; clear hS; intro aa hS
      refine sA hS hR (Yld.load1 hS rfl Try.underlying3 rfl (by first | exact Rd.blk (by repeat (first | with_reducible exact Pk.here | with_reducible apply Pk.there)) (by rfl) | exact Rd.rec (by repeat (first | with_reducible exact Pk.here | with_reducible apply Pk.there)) (by intro _; rfl) (by omega) rfl | exact Rd.rec0 (by repeat (first | with_reducible exact Pk.here | with_reducible apply Pk.there)) (by intro _; rfl) (by omega) rfl | exact Rd.flatJ (by repeat (first | with_reducible exact Pk.here | with_reducible apply Pk.there)) (by intro _; rfl) (by omega) rfl | exact Rd.flat0 (by repeat (first | with_reducible exact Pk.here | with_reducible apply Pk.there)) (by intro _; rfl) (by omega) rfl)) (by decide) ?_; clear hS; intro aa hS
      refine sA hS hR (Yld.assign hS rfl) (by decide) ?_; clear hS; intro aa hS
      refine wpList_nil ?_
      refine hK683 _ _ ?_
      refine wp_seq_k ?_; intro K684 hK684
      refine wp_region_lit ?_
      by_cases hn : 1 ≤ ns[j] ∧ ns[j] ≤ 4096
      ·
        refine sA hS hR (Yld.move hS rfl) (by decide) ?_; clear hS; intro aa hS
        refine sB (Bcall hS rfl Try.call9 (New_ok hR hn) (by decide) ?_); clear hS; intro aa ww vv hS hp
        clear hR
        obtain ⟨b, rfl, hR⟩ := hp
        refine sA hS hR (Yld.move hS rfl) (by decide) ?_; clear hS; intro aa hS
        refine sA hS hR (Yld.extract hS rfl rfl) (by decide) ?_; clear hS; intro aa hS
        refine sA hS hR (Yld.extract hS rfl rfl) (by decide) ?_; clear hS; intro aa hS
        refine sA hS hR (Yld.assign hS rfl) (by decide) ?_; clear hS; intro aa hS
        refine sA hS hR (Yld.assign hS rfl) (by decide) ?_; clear hS; intro aa hS
        refine wpList_nil ?_
        refine hK684 _ _ ?_
        refine wp_seq_k ?_; intro K685 hK685
        refine wp_region_lit ?_
        refine sA hS hR (Yld.move hS rfl) (by decide) ?_; clear hS; intro aa hS
        refine sA hS hR (Yld.eql hS rfl rfl) (by decide) ?_; clear hS; intro aa hS
        replace hS := hS.sayB (t := 80) true rfl (by simp)
        refine sA hS hR (Yld.move hS rfl) (by decide) ?_; clear hS; intro aa hS
        refine sB (Bcall hS rfl Try.call19 (RRight_ok hR) (by decide) ?_); clear hS; intro aa ww vv hS hp
        clear hR
        obtain ⟨rfl, hR⟩ := hp
        refine sA hS hR (Yld.neqB hS rfl rfl Try.underlying4) (by decide) ?_; clear hS; intro aa hS
        replace hS := hS.sayB (t := 83) false rfl (by rw [decide_eq_true hn]; rfl)
        refine sA hS hR (Yld.move hS rfl) (by decide) ?_; clear hS; intro aa hS
        refine sAg hS hR rfl rfl (Yld.move hS rfl) (by decide) ?_; clear hS; intro aa hS
        refine sAg hS hR rfl rfl (Yld.eql hS rfl rfl) (by decide) ?_; clear hS; intro aa hS
        replace hS := hS.sayB (t := 86) true rfl (by simp)
        refine sAg hS hR rfl rfl (Yld.move hS rfl) (by decide) ?_; clear hS; intro aa hS
        refine sAg hS hR rfl rfl (Yld.move hS rfl) (by decide) ?_; clear hS; intro aa hS
        refine sBg hS rfl rfl (Bcall hS rfl Try.call23 (Size_okA (hR.pk (r := arena 57 60 _ _) (by repeat (first | with_reducible exact Pk.here | with_reducible apply Pk.there)))) (by decide) ?_); clear hS; intro aa ww vv hS hp
        clear hR
        obtain ⟨rfl, hR⟩ := hp
        refine sAg hS hR rfl rfl (Yld.move hS rfl) (by decide) ?_; clear hS; intro aa hS
        refine sAg hS hR rfl rfl (Yld.neq hS rfl rfl) (by decide) ?_; clear hS; intro aa hS
        replace hS := hS.sayB (t := 91) false rfl (by simp [Ar.new]; omega)
        refine sAg hS hR rfl rfl (Yld.pickT hS rfl rfl) (by decide) ?_; clear hS; intro aa hS
        refine sA hS hR (Yld.pickF hS rfl rfl) (by decide) ?_; clear hS; intro aa hS
        refine wpList_nil ?_
        refine hK685 _ _ ?_
        refine condF hS rfl ?_
        refine wp_skip ?_
        refine hK682 _ _ ?_
        refine wp_region_lit ?_
        refine sA hS hR ((by first | exact Yld.add64 hS rfl rfl (by omega) | exact Yld.add hS rfl rfl)) (by decide) ?_; clear hS; intro aa hS
        refine sA hS hR (Yld.move hS rfl) (by decide) ?_; clear hS; intro aa hS
        refine wpList_nil ?_
        
        refine ⟨j + 1, ?_, ?_, hS.le (Le.cons rfl (Le.nilapp (Le.cons rfl (Le.cons rfl (Le.nil _))))), hR.sub (Ex.nilapp (by repeat (first | with_reducible exact Ex.refl | (with_reducible apply Ex.take; · repeat (first | with_reducible exact Pk.here | with_reducible apply Pk.there)) | with_reducible apply Ex.drop)))⟩
        · omega
        · omega
      ·
        refine sA hS hR (Yld.move hS rfl) (by decide) ?_; clear hS; intro aa hS
        refine sB (Bcall hS rfl Try.call9 (New_bad hR (by omega)) (by decide) ?_); clear hS; intro aa ww vv hS hp
        clear hR
        obtain ⟨rfl, hR⟩ := hp
        refine sA hS hR (Yld.move hS rfl) (by decide) ?_; clear hS; intro aa hS
        refine sA hS hR (Yld.extract hS rfl rfl) (by decide) ?_; clear hS; intro aa hS
        refine sA hS hR (Yld.extract hS rfl rfl) (by decide) ?_; clear hS; intro aa hS
        refine sA hS hR (Yld.assign hS rfl) (by decide) ?_; clear hS; intro aa hS
        refine sA hS hR (Yld.assign hS rfl) (by decide) ?_; clear hS; intro aa hS
        refine wpList_nil ?_
        refine hK684 _ _ ?_
        refine wp_seq_k ?_; intro K686 hK686
        refine wp_region_lit ?_
        refine sA hS hR (Yld.move hS rfl) (by decide) ?_; clear hS; intro aa hS
        refine sA hS hR (Yld.eql hS rfl rfl) (by decide) ?_; clear hS; intro aa hS
        replace hS := hS.sayB (t := 80) false rfl (by simp)
        refine sA hS hR (Yld.move hS rfl) (by decide) ?_; clear hS; intro aa hS
        refine sB (Bcall hS rfl Try.call19 (RRight_ok hR) (by decide) ?_); clear hS; intro aa ww vv hS hp
        clear hR
        obtain ⟨rfl, hR⟩ := hp
        refine sA hS hR (Yld.neqB hS rfl rfl Try.underlying4) (by decide) ?_; clear hS; intro aa hS
        replace hS := hS.sayB (t := 83) false rfl (by rw [decide_eq_false hn]; rfl)
        refine sA hS hR (Yld.move hS rfl) (by decide) ?_; clear hS; intro aa hS
        refine sAg hS hR rfl rfl (Yld.move hS rfl) (by decide) ?_; clear hS; intro aa hS
        refine sAg hS hR rfl rfl (Yld.eql hS rfl rfl) (by decide) ?_; clear hS; intro aa hS
        replace hS := hS.sayB (t := 86) false rfl (by simp)
        refine sAg hS hR rfl rfl (Yld.move hS rfl) (by decide) ?_; clear hS; intro aa hS
        refine sSkip hS rfl rfl rfl (by decide) ?_; clear hS; intro aa hS
        refine sSkip hS rfl rfl rfl (by decide) ?_; clear hS; intro aa hS
        refine sSkip hS rfl rfl rfl (by decide) ?_; clear hS; intro aa hS
        refine sSkip hS rfl rfl rfl (by decide) ?_; clear hS; intro aa hS
        refine sAg hS hR rfl rfl (Yld.pickF hS rfl rfl) (by decide) ?_; clear hS; intro aa hS
        refine sA hS hR (Yld.pickF hS rfl rfl) (by decide) ?_; clear hS; intro aa hS
        refine wpList_nil ?_
        refine hK686 _ _ ?_
        refine condF hS rfl ?_
        refine wp_skip ?_
        refine hK682 _ _ ?_
        refine wp_region_lit ?_
        refine sA hS hR ((by first | exact Yld.add64 hS rfl rfl (by omega) | exact Yld.add hS rfl rfl)) (by decide) ?_; clear hS; intro aa hS
        refine sA hS hR (Yld.move hS rfl) (by decide) ?_; clear hS; intro aa hS
        refine wpList_nil ?_
        
        refine ⟨j + 1, ?_, ?_, hS.le (Le.cons rfl (Le.nilapp (Le.cons rfl (Le.cons rfl (Le.nil _))))), hR.sub (Ex.nilapp (by repeat (first | with_reducible exact Ex.refl | (with_reducible apply Ex.take; · repeat (first | with_reducible exact Pk.here | with_reducible apply Pk.there)) | with_reducible apply Ex.drop)))⟩
        · omega
        · omega
    · intro hg hS
      refine condF hS rfl ?_
      refine wp_exit ?_
      refine hK677 _ _ ?_
      refine wp_seq_k ?_; intro K687 hK687
      refine wp_seq_k ?_; intro K688 hK688
      refine wp_region_lit ?_
      refine sA hS hR (Yld.build hS rfl (bld57_)) (by decide) ?_; clear hS; intro aa hS
      refine sB (Bbox hS hR rfl (by rfl) (by decide) ?_); clear hS hR; intro aa ww bb96 hS hR
      refine sB (BbuildSlice hS hR rfl (bls58_2_0_1 _ _) (by decide) ?_); clear hS hR; intro aa ww bb97 hS hR
      replace hR := hR.pk (r := blk bb97 _ _) (by repeat (first | with_reducible exact Pk.here | with_reducible apply Pk.there))
      replace hR := Sep.toRecs (m := 2) (sz := 1) (enc := eP) [none, some ⟨bb96, 0, none⟩] hR rfl (by intro _; rfl) rfl
      obtain ⟨ps, hpl, hps, hR⟩ : ∃ ps : List (Option Addr), ps.length = 2 ∧ (∀ p ∈ ps, p = none ∨ p = some ⟨bb96, 0, none⟩) ∧ Sep (sls (some ⟨bb97, 0, none⟩) 2 2 23 1 (ps.flatMap eP) :: _) _ := ⟨_, rfl, by simp, hR⟩
      refine sA hS hR (Yld.len hS rfl Try.underlying58) (by decide) ?_; clear hS; intro aa hS
      refine sA hS hR (Yld.move hS rfl) (by decide) ?_; clear hS; intro aa hS
      refine wpList_nil ?_
      refine hK688 _ _ ?_
      refine wp_block ?_
      refine loopI (X := Nat) [(97, _), (98, _)] (fun x => [(99, .int .i64 (x : Int))]) (fun x => []) _ (fun x => x ≤ 2) (fun x => 2 - x) 0 (Nat.zero_le _) (hS.le (Le.cons rfl (Le.nilapp (Le.cons rfl (Le.cons rfl (Le.nil _)))))) hR ?_
      clear hS hR; rintro j3 aa ww hI hS hR; dsimp only [List.cons_append, List.nil_append] at hI hS hR
      refine wp_seq_k ?_; intro K690 hK690
      refine wp_region_lit ?_
      refine sA hS hR (Yld.lss hS rfl rfl) (by decide) ?_; clear hS; intro aa hS
      refine wpList_nil ?_
      refine hK690 _ _ ?_
      refine wp_seq_k ?_; intro K691 hK691
      refine hS.splitB (t := 100) rfl ?_ ?_ <;> clear hS
      · intro hg hS
        have hN : ∀ L L2, Pk (blk bb96 [.slice none 0 0, .int .i64 0, .int .i64 0] 57) L L2 → NoA L (ps[j3]) := fun L L2 hp => (hps _ (List.getElem_mem _)).elim .inl (fun h => .inr ⟨_, h, Rd.blk hp rfl⟩)
        refine condT hS rfl ?_
        refine wp_skip ?_
        refine hK691 _ _ ?_
        refine wp_seq_k ?_; intro K692 hK692
        refine wp_block ?_
        refine wp_seq_k ?_; intro K693 hK693
        refine wp_region_lit ?_
        refine sA hS hR ((by first | exact Yld.indexL (sz := 1) _ hS rfl rfl Try.underlying58 info23 (by repeat (first | with_reducible exact Pk.here | with_reducible apply Pk.there)) rfl rfl (by omega) | exact Yld.indexB (sz := 1) _ hS rfl rfl Try.underlying58 info23 rfl rfl (by omega) | exact Yld.indexSlice hS rfl rfl Try.underlying58 info23 (by omega) (by omega))) (by decide) ?_; clear hS; intro aa hS
        refine sA hS hR (Yld.load1 hS rfl Try.underlying23 rfl (by first | exact Rd.blk (by repeat (first | with_reducible exact Pk.here | with_reducible apply Pk.there)) (by rfl) | exact Rd.rec (by repeat (first | with_reducible exact Pk.here | with_reducible apply Pk.there)) (by intro _; rfl) (by omega) rfl | exact Rd.rec0 (by repeat (first | with_reducible exact Pk.here | with_reducible apply Pk.there)) (by intro _; rfl) (by omega) rfl | exact Rd.flatJ (by repeat (first | with_reducible exact Pk.here | with_reducible apply Pk.there)) (by intro _; rfl) (by omega) rfl | exact Rd.flat0 (by repeat (first | with_reducible exact Pk.here | with_reducible apply Pk.there)) (by intro _; rfl) (by omega) rfl)) (by decide) ?_; clear hS; intro aa hS
        refine sA hS hR (Yld.assign hS rfl) (by decide) ?_; clear hS; intro aa hS
        refine wpList_nil ?_
        refine hK693 _ _ ?_
        refine wp_seq_k ?_; intro K694 hK694
        refine wp_region_lit ?_
        refine sA hS hR (Yld.move hS rfl) (by decide) ?_; clear hS; intro aa hS
        refine sB (Bcall hS rfl Try.call10 (Take_no (hN _ _ (by repeat (first | with_reducible exact Pk.here | with_reducible apply Pk.there))) hR) (by decide) ?_); clear hS; intro aa ww vv hS hp
        clear hR
        obtain ⟨rfl, hR⟩ := hp
        refine sA hS hR (Yld.move hS rfl) (by decide) ?_; clear hS; intro aa hS
        refine sA hS hR (Yld.extract hS rfl rfl) (by decide) ?_; clear hS; intro aa hS
        refine sA hS hR (Yld.extract hS rfl rfl) (by decide) ?_; clear hS; intro aa hS
        refine sB (Balloc hS hR info29 (by rfl) (by rfl) (by decide) ?_); clear hS hR; intro aa ww bb15 hS hR
        refine sB (Bstore hS hR rfl rfl (by rfl) info29 (by rfl) (by repeat (first | with_reducible exact Pk.here | with_reducible apply Pk.there)) (by rfl) (Nat.le_of_ble_eq_true rfl) ?_); clear hR; intro ww hR
        refine sA hS hR (Yld.assign hS rfl) (by decide) ?_; clear hS; intro aa hS
        refine wpList_nil ?_
        refine hK694 _ _ ?_
        refine wp_seq_k ?_; intro K695 hK695
        refine wp_region_lit ?_
        refine sA hS hR (Yld.move hS rfl) (by decide) ?_; clear hS; intro aa hS
        refine sB (Bcall hS rfl Try.call16 (At_no (hN _ _ (by repeat (first | with_reducible exact Pk.here | with_reducible apply Pk.there))) hR) (by decide) ?_); clear hS; intro aa ww vv hS hp
        clear hR
        obtain ⟨rfl, hR⟩ := hp
        refine sA hS hR (Yld.move hS rfl) (by decide) ?_; clear hS; intro aa hS
        refine sA hS hR (Yld.extract hS rfl rfl) (by decide) ?_; clear hS; intro aa hS
        refine sA hS hR (Yld.extract hS rfl rfl) (by decide) ?_; clear hS; intro aa hS
        refine sB (Balloc hS hR info29 (by rfl) (by rfl) (by decide) ?_); clear hS hR; intro aa ww bb17 hS hR
        refine sB (Bstore hS hR rfl rfl (by rfl) info29 (by rfl) (by repeat (first | with_reducible exact Pk.here | with_reducible apply Pk.there)) (by rfl) (Nat.le_of_ble_eq_true rfl) ?_); clear hR; intro ww hR
        refine sA hS hR (Yld.assign hS rfl) (by decide) ?_; clear hS; intro aa hS
        refine wpList_nil ?_
        refine hK695 _ _ ?_
        refine wp_seq_k ?_; intro K696 hK696
        refine wp_region_lit ?_
        refine sA hS hR (Yld.move hS rfl) (by decide) ?_; clear hS; intro aa hS
        refine sA hS hR (Yld.neq hS rfl rfl) (by decide) ?_; clear hS; intro aa hS
        replace hS := hS.sayB (t := 114) false rfl (by simp)
        refine sA hS hR (Yld.move hS rfl) (by decide) ?_; clear hS; intro aa hS
        refine sAg hS hR rfl rfl (Yld.move hS rfl) (by decide) ?_; clear hS; intro aa hS
        refine sAg hS hR rfl rfl (Yld.build hS rfl (bld29_)) (by decide) ?_; clear hS; intro aa hS
        refine sBg hS rfl rfl (Bcall hS rfl Try.call11 (Give_no (hN _ _ (by repeat (first | with_reducible exact Pk.here | with_reducible apply Pk.there))) hR) (by decide) ?_); clear hS; intro aa ww vv hS hp
        clear hR
        obtain ⟨rfl, hR⟩ := hp
        refine sAg hS hR rfl rfl (Yld.move hS rfl) (by decide) ?_; clear hS; intro aa hS
        refine sAg hS hR rfl rfl (Yld.neq hS rfl rfl) (by decide) ?_; clear hS; intro aa hS
        replace hS := hS.sayB (t := 120) false rfl (by simp)
        refine sA hS hR (Yld.pickF hS rfl rfl) (by decide) ?_; clear hS; intro aa hS
        refine sA hS hR (Yld.move hS rfl) (by decide) ?_; clear hS; intro aa hS
        refine sAg hS hR rfl rfl (Yld.move hS rfl) (by decide) ?_; clear hS; intro aa hS
        refine sBg hS rfl rfl (Bcall hS rfl Try.call18 (Clear_no (hN _ _ (by repeat (first | with_reducible exact Pk.here | with_reducible apply Pk.there))) hR) (by decide) ?_); clear hS; intro aa ww vv hS hp
        clear hR
        obtain ⟨rfl, hR⟩ := hp
        refine sAg hS hR rfl rfl (Yld.move hS rfl) (by decide) ?_; clear hS; intro aa hS
        refine sAg hS hR rfl rfl (Yld.neq hS rfl rfl) (by decide) ?_; clear hS; intro aa hS
        replace hS := hS.sayB (t := 126) false rfl (by simp)
        refine sA hS hR (Yld.pickF hS rfl rfl) (by decide) ?_; clear hS; intro aa hS
        refine sA hS hR (Yld.move hS rfl) (by decide) ?_; clear hS; intro aa hS
        refine sAg hS hR rfl rfl (Yld.move hS rfl) (by decide) ?_; clear hS; intro aa hS
        replace hS := hS.sayB (t := 129) false rfl (by rfl)
        refine sA hS hR (Yld.pickF hS rfl rfl) (by decide) ?_; clear hS; intro aa hS
        refine sA hS hR (Yld.move hS rfl) (by decide) ?_; clear hS; intro aa hS
        refine sAg hS hR rfl rfl (Yld.move hS rfl) (by decide) ?_; clear hS; intro aa hS
        refine sAg hS hR rfl rfl (Yld.build hS rfl (bld29_)) (by decide) ?_; clear hS; intro aa hS
        refine sBg hS rfl rfl (Bcall hS rfl Try.call13 (Live_no (hN _ _ (by repeat (first | with_reducible exact Pk.here | with_reducible apply Pk.there))) hR) (by decide) ?_); clear hS; intro aa ww vv hS hp
        clear hR
        obtain ⟨rfl, hR⟩ := hp
        replace hS := hS.sayB (t := 134) false rfl (by rfl)
        refine sA hS hR (Yld.pickF hS rfl rfl) (by decide) ?_; clear hS; intro aa hS
        refine sA hS hR (Yld.move hS rfl) (by decide) ?_; clear hS; intro aa hS
        refine sAg hS hR rfl rfl (Yld.move hS rfl) (by decide) ?_; clear hS; intro aa hS
        refine sBg hS rfl rfl (Bcall hS rfl Try.call23 (Size_no (hN _ _ (by repeat (first | with_reducible exact Pk.here | with_reducible apply Pk.there))) hR) (by decide) ?_); clear hS; intro aa ww vv hS hp
        clear hR
        obtain ⟨rfl, hR⟩ := hp
        refine sAg hS hR rfl rfl (Yld.move hS rfl) (by decide) ?_; clear hS; intro aa hS
        refine sBg hS rfl rfl (Bcall hS rfl Try.call15 (Count_no (hN _ _ (by repeat (first | with_reducible exact Pk.here | with_reducible apply Pk.there))) hR) (by decide) ?_); clear hS; intro aa ww vv hS hp
        clear hR
        obtain ⟨rfl, hR⟩ := hp
        refine sAg hS hR rfl rfl ((by first | exact Yld.add64 hS rfl rfl (by omega) | exact Yld.add hS rfl rfl)) (by decide) ?_; clear hS; intro aa hS
        refine sAg hS hR rfl rfl (Yld.move hS rfl) (by decide) ?_; clear hS; intro aa hS
        refine sBg hS rfl rfl (Bcall hS rfl Try.call14 (Free_no (hN _ _ (by repeat (first | with_reducible exact Pk.here | with_reducible apply Pk.there))) hR) (by decide) ?_); clear hS; intro aa ww vv hS hp
        clear hR
        obtain ⟨rfl, hR⟩ := hp
        refine sAg hS hR rfl rfl (Yld.len hS rfl Try.underlying36) (by decide) ?_; clear hS; intro aa hS
        refine sAg hS hR rfl rfl ((by first | exact Yld.add64 hS rfl rfl (by omega) | exact Yld.add hS rfl rfl)) (by decide) ?_; clear hS; intro aa hS
        refine sAg hS hR rfl rfl (Yld.move hS rfl) (by decide) ?_; clear hS; intro aa hS
        refine sBg hS rfl rfl (Bcall hS rfl Try.call17 (All_no (hN _ _ (by repeat (first | with_reducible exact Pk.here | with_reducible apply Pk.there))) hR) (by decide) ?_); clear hS; intro aa ww vv hS hp
        clear hR
        obtain ⟨rfl, hR⟩ := hp
        refine sAg hS hR rfl rfl (Yld.len hS rfl Try.underlying27) (by decide) ?_; clear hS; intro aa hS
        refine sAg hS hR rfl rfl ((by first | exact Yld.add64 hS rfl rfl (by omega) | exact Yld.add hS rfl rfl)) (by decide) ?_; clear hS; intro aa hS
        refine sAg hS hR rfl rfl (Yld.neq hS rfl rfl) (by decide) ?_; clear hS; intro aa hS
        replace hS := hS.sayB (t := 150) false rfl (by simp)
        refine sA hS hR (Yld.pickF hS rfl rfl) (by decide) ?_; clear hS; intro aa hS
        refine wpList_nil ?_
        refine hK696 _ _ ?_
        refine condF hS rfl ?_
        refine wp_skip ?_
        refine hK692 _ _ ?_
        refine wp_region_lit ?_
        refine sA hS hR ((by first | exact Yld.add64 hS rfl rfl (by omega) | exact Yld.add hS rfl rfl)) (by decide) ?_; clear hS; intro aa hS
        refine sA hS hR (Yld.move hS rfl) (by decide) ?_; clear hS; intro aa hS
        refine wpList_nil ?_
        
        refine ⟨j3 + 1, ?_, ?_, hS.le (Le.cons rfl (Le.nilapp (Le.cons rfl (Le.cons rfl (Le.nil _))))), hR.sub (Ex.nilapp (by repeat (first | with_reducible exact Ex.refl | (with_reducible apply Ex.take; · repeat (first | with_reducible exact Pk.here | with_reducible apply Pk.there)) | with_reducible apply Ex.drop)))⟩
        · omega
        · omega
      · intro hg hS
        refine condF hS rfl ?_
        refine wp_exit ?_
        refine hK687 _ _ ?_
        refine wp_seq_k ?_; intro K697 hK697
        refine wp_region_lit ?_
        refine sB (Bcall hS rfl Try.call12 (awake_ok hR) (by decide) ?_); clear hS; intro aa ww vv hS hp
        clear hR
        obtain ⟨rfl, hR⟩ := hp
        refine sA hS hR (Yld.assign hS rfl) (by decide) ?_; clear hS; intro aa hS
        refine wpList_nil ?_
        refine hK697 _ _ ?_
        refine wp_ret ?_
        repeat (first | with_reducible refine thenR ?_ | with_reducible refine blockR ?_ | with_reducible refine scopeR ?_)
        refine ret1 (fn := Try.f8) (e := .ret) (.inl rfl) Try.results8 hS hR ⟨_, (.tmp rfl), ?_⟩
        exact ⟨rfl, (hR.sub (by repeat (first | with_reducible exact Ex.refl | (with_reducible apply Ex.take; · repeat (first | with_reducible exact Pk.here | with_reducible apply Pk.there)) | with_reducible apply Ex.drop)))⟩
end Go.Proofs.Ytmlebadfedleoaa.Sx
