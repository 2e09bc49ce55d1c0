/-
  
-/
import Derived.Test.YtcokognhodjfgaaRxI
namespace Go.Proofs.Ytcokognhodjfgaa.Sx
open Go
set_option linter.unusedVariables false
set_option linter.unusedSimpArgs false

theorem info23 : Try.prog.info? 23 = some Try.t23 := by kernel_rfl
theorem bld44_0 (x0 : Int) (w : World) : (Instr.build 44 [(0, .int .u8 x0)].toArray).run Try.prog w = .ok (.agg [.int .u8 x0, .int .i64 0, .int .i64 0].toArray) w := by kernel_rfl
theorem bld44_0_1 (x0 : Int) (x1 : Int) (w : World) : (Instr.build 44 [(0, .int .u8 x0), (1, .int .i64 x1)].toArray).run Try.prog w = .ok (.agg [.int .u8 x0, .int .i64 x1, .int .i64 0].toArray) w := by kernel_rfl
theorem bld44_0_1_2 (x0 : Int) (x1 : Int) (x2 : Int) (w : World) : (Instr.build 44 [(0, .int .u8 x0), (1, .int .i64 x1), (2, .int .i64 x2)].toArray).run Try.prog w = .ok (.agg [.int .u8 x0, .int .i64 x1, .int .i64 x2].toArray) w := by kernel_rfl
theorem bld44_0_2 (x0 : Int) (x2 : Int) (w : World) : (Instr.build 44 [(0, .int .u8 x0), (2, .int .i64 x2)].toArray).run Try.prog w = .ok (.agg [.int .u8 x0, .int .i64 0, .int .i64 x2].toArray) w := by kernel_rfl
theorem bld54_  (w : World) : (Instr.build 54 [].toArray).run Try.prog w = .ok (.agg [.slice none 0 0, .int .i64 0, .slice none 0 0, .slice none 0 0, .slice none 0 0].toArray) w := by kernel_rfl
theorem bls37_11_0_1_2_3_4_5_6_7_8_9_10 (x0_0 : Int) (x0_1 : Int) (x0_2 : Int) (x1_0 : Int) (x1_1 : Int) (x1_2 : Int) (x2_0 : Int) (x2_1 : Int) (x2_2 : Int) (x3_0 : Int) (x3_1 : Int) (x3_2 : Int) (x4_0 : Int) (x4_1 : Int) (x4_2 : Int) (x5_0 : Int) (x5_1 : Int) (x5_2 : Int) (x6_0 : Int) (x6_1 : Int) (x6_2 : Int) (x7_0 : Int) (x7_1 : Int) (x7_2 : Int) (x8_0 : Int) (x8_1 : Int) (x8_2 : Int) (x9_0 : Int) (x9_1 : Int) (x9_2 : Int) (x10_0 : Int) (x10_1 : Int) (x10_2 : Int) (w : World) : (Instr.buildSlice 37 11 [(0, .agg [.int .u8 x0_0, .int .i64 x0_1, .int .i64 x0_2].toArray), (1, .agg [.int .u8 x1_0, .int .i64 x1_1, .int .i64 x1_2].toArray), (2, .agg [.int .u8 x2_0, .int .i64 x2_1, .int .i64 x2_2].toArray), (3, .agg [.int .u8 x3_0, .int .i64 x3_1, .int .i64 x3_2].toArray), (4, .agg [.int .u8 x4_0, .int .i64 x4_1, .int .i64 x4_2].toArray), (5, .agg [.int .u8 x5_0, .int .i64 x5_1, .int .i64 x5_2].toArray), (6, .agg [.int .u8 x6_0, .int .i64 x6_1, .int .i64 x6_2].toArray), (7, .agg [.int .u8 x7_0, .int .i64 x7_1, .int .i64 x7_2].toArray), (8, .agg [.int .u8 x8_0, .int .i64 x8_1, .int .i64 x8_2].toArray), (9, .agg [.int .u8 x9_0, .int .i64 x9_1, .int .i64 x9_2].toArray), (10, .agg [.int .u8 x10_0, .int .i64 x10_1, .int .i64 x10_2].toArray)].toArray).run Try.prog w = .ok (.slice (some ⟨w.heap.size, 0, none⟩) 11 11) (w.alloc (.cells ([.int .u8 x0_0, .int .i64 x0_1, .int .i64 x0_2, .int .u8 x1_0, .int .i64 x1_1, .int .i64 x1_2, .int .u8 x2_0, .int .i64 x2_1, .int .i64 x2_2, .int .u8 x3_0, .int .i64 x3_1, .int .i64 x3_2, .int .u8 x4_0, .int .i64 x4_1, .int .i64 x4_2, .int .u8 x5_0, .int .i64 x5_1, .int .i64 x5_2, .int .u8 x6_0, .int .i64 x6_1, .int .i64 x6_2, .int .u8 x7_0, .int .i64 x7_1, .int .i64 x7_2, .int .u8 x8_0, .int .i64 x8_1, .int .i64 x8_2, .int .u8 x9_0, .int .i64 x9_1, .int .i64 x9_2, .int .u8 x10_0, .int .i64 x10_1, .int .i64 x10_2] : List Value).toArray 44)) := by kernel_rfl
theorem bls50_8_0_1_2_3_4_5_6_7 (x0_0 : Int) (x0_1 : Int) (x1_0 : Int) (x1_1 : Int) (x2_0 : Int) (x2_1 : Int) (x3_0 : Int) (x3_1 : Int) (x4_0 : Int) (x4_1 : Int) (x5_0 : Int) (x5_1 : Int) (x6_0 : Int) (x6_1 : Int) (x7_0 : Int) (x7_1 : Int) (w : World) : (Instr.buildSlice 50 8 [(0, .agg [.int .i64 x0_0, .int .i64 x0_1].toArray), (1, .agg [.int .i64 x1_0, .int .i64 x1_1].toArray), (2, .agg [.int .i64 x2_0, .int .i64 x2_1].toArray), (3, .agg [.int .i64 x3_0, .int .i64 x3_1].toArray), (4, .agg [.int .i64 x4_0, .int .i64 x4_1].toArray), (5, .agg [.int .i64 x5_0, .int .i64 x5_1].toArray), (6, .agg [.int .i64 x6_0, .int .i64 x6_1].toArray), (7, .agg [.int .i64 x7_0, .int .i64 x7_1].toArray)].toArray).run Try.prog w = .ok (.slice (some ⟨w.heap.size, 0, none⟩) 8 8) (w.alloc (.cells ([.int .i64 x0_0, .int .i64 x0_1, .int .i64 x1_0, .int .i64 x1_1, .int .i64 x2_0, .int .i64 x2_1, .int .i64 x3_0, .int .i64 x3_1, .int .i64 x4_0, .int .i64 x4_1, .int .i64 x5_0, .int .i64 x5_1, .int .i64 x6_0, .int .i64 x6_1, .int .i64 x7_0, .int .i64 x7_1] : List Value).toArray 49)) := by kernel_rfl
theorem bls55_2_0_1 (x0 : Option Addr) (x1 : Option Addr) (w : World) : (Instr.buildSlice 55 2 [(0, .pointer x0), (1, .pointer x1)].toArray).run Try.prog w = .ok (.slice (some ⟨w.heap.size, 0, none⟩) 2 2) (w.alloc (.cells ([.pointer x0, .pointer x1] : List Value).toArray 23)) := by kernel_rfl

def ePs (p : Option Addr) : List Value := [.pointer p]
def eA (r : Int × Int × Int) : List Value := [.int .u8 r.1, .int .i64 r.2.1, .int .i64 r.2.2]
def eQ (r : Int × Int) : List Value := [.int .i64 r.1, .int .i64 r.2]
abbrev okP (r : Int × Int) : Prop := 1 ≤ r.1 ∧ r.1 ≤ 8192 ∧ 1 ≤ r.2 ∧ r.2 ≤ 4096
set_option maxHeartbeats 8000000 in
set_option maxRecDepth 20000 in
theorem LinksSmall_ok {l : List HP} {w : World} (hR : Sep l w) : CallR Try.prog 5 ([] : List Value) w (fun v w' => v = .bool true ∧ Sep l w') := by
  refine enter Try.func5 rfl Try.ntmps5 (Nat.le_of_ble_eq_true rfl) ?_; intro aa hS
  refine wp_seq_k ?_; intro K727 hK727
  refine wp_region_lit ?_
  refine sA hS hR (Yld.assign hS rfl) (by decide) ?_; clear hS; intro aa hS
  refine wpList_nil ?_
  refine hK727 _ _ ?_
  refine wp_seq_k ?_; intro K728 hK728
  refine wp_region_lit ?_
  refine sA hS hR (Yld.build hS rfl (bld44_0 _)) (by decide) ?_; clear hS; intro aa hS
  refine sA hS hR (Yld.build hS rfl (bld44_0_2 _ _)) (by decide) ?_; clear hS; intro aa hS
  refine sA hS hR (Yld.build hS rfl (bld44_0_1_2 _ _ _)) (by decide) ?_; clear hS; intro aa hS
  refine sA hS hR (Yld.build hS rfl (bld44_0_2 _ _)) (by decide) ?_; clear hS; intro aa hS
  refine sA hS hR (Yld.build hS rfl (bld44_0_1 _ _)) (by decide) ?_; clear hS; intro aa hS
  refine sA hS hR (Yld.build hS rfl (bld44_0 _)) (by decide) ?_; clear hS; intro aa hS
  refine sA hS hR (Yld.build hS rfl (bld44_0_2 _ _)) (by decide) ?_; clear hS; intro aa hS
  refine sA hS hR (Yld.build hS rfl (bld44_0_2 _ _)) (by decide) ?_; clear hS; intro aa hS
  refine sA hS hR (Yld.build hS rfl (bld44_0_1 _ _)) (by decide) ?_; clear hS; intro aa hS
  refine sA hS hR (Yld.build hS rfl (bld44_0_1_2 _ _ _)) (by decide) ?_; clear hS; intro aa hS
  refine sA hS hR (Yld.build hS rfl (bld44_0_2 _ _)) (by decide) ?_; clear hS; intro aa hS
  refine sB (BbuildSlice hS hR rfl (bls37_11_0_1_2_3_4_5_6_7_8_9_10 _ _ _ _ _ _ _ _ _ _ _ _ _ _ _ _ _ _ _ _ _ _ _ _ _ _ _ _ _ _ _ _ _) (by decide) ?_); clear hS hR; intro aa ww bb35 hS hR
  replace hR := hR.pk (r := blk bb35 _ _) (by repeat (first | with_reducible exact Pk.here | with_reducible apply Pk.there))
  replace hR := Sep.toRecs (m := 11) (sz := 3) (enc := eA) [(1, 0, 0), (1, 0, 1), (1, 1, 2), (0, 0, 2), (0, 1, 0), (3, 0, 0), (3, 0, 1), (4, 0, 1), (4, 1, 0), (1, 1, 1), (3, 0, 3)] hR rfl (by intro _; rfl) rfl
  obtain ⟨acts, hal, hacts, hR⟩ : ∃ acts : List (Int × Int × Int), acts.length = 11 ∧ (∀ r ∈ acts, 0 ≤ r.1 ∧ r.1 ≤ 255) ∧ Sep (sls (some ⟨bb35, 0, none⟩) 11 11 44 3 (acts.flatMap eA) :: _) _ := ⟨_, rfl, by decide, hR⟩
  refine sA hS hR (Yld.assign hS rfl) (by decide) ?_; clear hS; intro aa hS
  refine wpList_nil ?_
  refine hK728 _ _ ?_
  refine wp_seq_k ?_; intro K729 hK729
  refine wp_seq_k ?_; intro K730 hK730
  refine wp_region_lit ?_
  refine sA hS hR (Yld.move hS rfl) (by decide) ?_; clear hS; intro aa hS
  refine wpList_nil ?_
  refine hK730 _ _ ?_
  refine wp_block ?_
  refine loopI (X := Nat) [(1, _)] (fun x => [(36, .int .i64 (x : Int))]) (fun x => []) _ (fun x => x ≤ 14641) (fun x => 14641 - x) 0 (Nat.zero_le _) (hS.le (Le.cons rfl (Le.nilapp (Le.cons rfl (Le.nil _))))) hR ?_
  clear hS hR; rintro way aa ww hI hS hR; dsimp only [List.cons_append, List.nil_append] at hI hS hR
  refine wp_seq_k ?_; intro K732 hK732
  refine wp_region_lit ?_
  refine sA hS hR (Yld.lss hS rfl rfl) (by decide) ?_; clear hS; intro aa hS
  refine wpList_nil ?_
  refine hK732 _ _ ?_
  refine wp_seq_k ?_; intro K733 hK733
  refine hS.splitB (t := 37) rfl ?_ ?_ <;> clear hS
  · intro hg hS
    refine condT hS rfl ?_
    refine wp_skip ?_
    refine hK733 _ _ ?_
    refine wp_seq_k ?_; intro K734 hK734
    refine wp_block ?_
    refine wp_seq_k ?_; intro K735 hK735
    refine wp_region_lit ?_
    refine sA hS hR (Yld.move hS rfl) (by decide) ?_; clear hS; intro aa hS
    refine sA hS hR (Yld.assign hS rfl) (by decide) ?_; clear hS; intro aa hS
    refine wpList_nil ?_
    refine hK735 _ _ ?_
    refine wp_seq_k ?_; intro K736 hK736
    refine wp_region_lit ?_
    refine sB (Bcall hS rfl Try.call19 (LNew_ok (S := 3) (n := 2) hR (by decide) (by decide) (by decide) (by decide)) (by decide) ?_); clear hS; intro aa ww vv hS hp
    clear hR
    obtain ⟨b, rfl, hR⟩ := hp
    refine sA hS hR (Yld.move hS rfl) (by decide) ?_; clear hS; intro aa hS
    refine sA hS hR (Yld.extract hS rfl rfl) (by decide) ?_; clear hS; intro aa hS
    refine sA hS hR (Yld.extract hS rfl rfl) (by decide) ?_; clear hS; intro aa hS
    refine sA hS hR (Yld.assign hS rfl) (by decide) ?_; clear hS; intro aa hS
    refine sA hS hR (Yld.assign hS rfl) (by decide) ?_; clear hS; intro aa hS
    refine wpList_nil ?_
    refine hK736 _ _ ?_
    refine wp_seq_k ?_; intro K737 hK737
    refine wp_seq_k ?_; intro K738 hK738
    refine wp_region_lit ?_
    refine sA hS hR (Yld.move hS rfl) (by decide) ?_; clear hS; intro aa hS
    refine sA hS hR (Yld.neq hS rfl rfl) (by decide) ?_; clear hS; intro aa hS
    replace hS := hS.sayB (t := 44) false rfl (by decide)
    refine sA hS hR (Yld.move hS rfl) (by decide) ?_; clear hS; intro aa hS
    refine sAg hS hR rfl rfl (Yld.move hS rfl) (by decide) ?_; clear hS; intro aa hS
    refine sAg hS hR rfl rfl (Yld.eqlNil hS rfl rfl Try.underlying23) (by decide) ?_; clear hS; intro aa hS
    replace hS := hS.sayB (t := 47) false rfl (by rfl)
    refine sA hS hR (Yld.pickF hS rfl rfl) (by decide) ?_; clear hS; intro aa hS
    refine wpList_nil ?_
    refine hK738 _ _ ?_
    refine condF hS rfl ?_
    refine wp_skip ?_
    refine hK737 _ _ ?_
    refine wp_seq_k ?_; intro K739 hK739
    refine wp_region_lit ?_
    refine sB (Bcall hS rfl Try.call21 (RNew_ok (S := 3) (n := 2) hR (by decide)) (by decide) ?_); clear hS; intro aa ww vv hS hp
    clear hR
    obtain ⟨b2, rfl, hR⟩ := hp
    refine sA hS hR (Yld.assign hS rfl) (by decide) ?_; clear hS; intro aa hS
    refine wpList_nil ?_
    refine hK739 _ _ ?_
    refine wp_seq_k ?_; intro K740 hK740
    refine wp_seq_k ?_; intro K741 hK741
    refine wp_region_lit ?_
    refine sA hS hR (Yld.move hS rfl) (by decide) ?_; clear hS; intro aa hS
    refine sA hS hR (Yld.assign hS rfl) (by decide) ?_; clear hS; intro aa hS
    refine sA hS hR (Yld.assign hS rfl) (by decide) ?_; clear hS; intro aa hS
    refine wpList_nil ?_
    refine hK741 _ _ ?_
    refine wp_block ?_
    replace hR := hR.pk (r := refA 70 27 3 b2 3 2 (fun _ => [])) (by repeat (first | with_reducible exact Pk.here | with_reducible apply Pk.there))
    replace hR := hR.pk (r := linksA 54 65 3 b 3 2 (fun _ => [])) (by repeat (first | with_reducible exact Pk.here | with_reducible apply Pk.there))
    refine loopI (X := Nat × Nat × (Nat → List Nat)) [(1, _), (2, _), (3, _), (4, _), (5, _), (36, _), (37, _), (38, _), (39, _), (40, _), (41, _), (42, _), (43, _), (44, _), (45, _), (46, _), (47, _), (48, _), (49, _), (50, _)] (fun x => [(6, .int .i64 (x.1 : Int)), (7, .int .i64 (x.2.1 : Int))]) (fun x => [linksA 54 65 3 b 3 2 x.2.2, refA 70 27 3 b2 3 2 x.2.2]) _ (fun x => x.1 ≤ 4 ∧ x.2.1 ≤ 14641) (fun x => 4 - x.1) (0, way, fun _ => []) ⟨Nat.zero_le _, by dsimp only; omega⟩ (hS.le (Le.cons rfl (Le.cons rfl (Le.nilapp (Le.cons rfl (Le.cons rfl (Le.cons rfl (Le.cons rfl (Le.cons rfl (Le.cons rfl (Le.cons rfl (Le.cons rfl (Le.cons rfl (Le.cons rfl (Le.cons rfl (Le.cons rfl (Le.cons rfl (Le.cons rfl (Le.cons rfl (Le.cons rfl (Le.cons rfl (Le.cons rfl (Le.cons rfl (Le.cons rfl (Le.nil _))))))))))))))))))))))))) hR ?_
    clear hS hR; rintro ⟨i, k, L⟩ aa ww hI hS hR; dsimp only [List.cons_append, List.nil_append] at hI hS hR
    refine wp_seq_k ?_; intro K743 hK743
    refine wp_seq_k ?_; intro K744 hK744
    refine wp_region_lit ?_
    refine sA hS hR (Yld.move hS rfl) (by decide) ?_; clear hS; intro aa hS
    refine sA hS hR (Yld.lss hS rfl rfl) (by decide) ?_; clear hS; intro aa hS
    refine wpList_nil ?_
    refine hK744 _ _ ?_
    refine hS.splitB (t := 52) rfl ?_ ?_ <;> clear hS
    · intro hg hS
      refine condT hS rfl ?_
      refine wp_skip ?_
      refine hK743 _ _ ?_
      refine wp_seq_k ?_; intro K745 hK745
      refine wp_block ?_
      refine wp_seq_k ?_; intro K746 hK746
      refine wp_region_lit ?_
      refine sA hS hR (Yld.move hS rfl) (by decide) ?_; clear hS; intro aa hS
      refine sA hS hR (Yld.move hS rfl) (by decide) ?_; clear hS; intro aa hS
      refine sA hS hR (Yld.move hS rfl) (by decide) ?_; clear hS; intro aa hS
      refine sA hS hR (Yld.move hS rfl) (by decide) ?_; clear hS; intro aa hS
      refine sA hS hR ((by first | exact Yld.rem64 hS rfl rfl (by omega) | exact Yld.rem hS rfl rfl (by omega))) (by decide) ?_; clear hS; intro aa hS
      obtain ⟨ka, hka, hkal⟩ := emod_nat (n := (k : Int)) (d := 11) (m := 11) rfl (by omega)
      replace hS := hS.say (t := 61) (.int .i64 (ka : Int)) rfl (by rw [hka])
      refine sA hS hR ((by first | exact Yld.indexH (sz := 3) (ka) hS rfl rfl Try.underlying37 info44 (by assumption) rfl (by first | rfl | omega) (by omega) | exact Yld.indexL (sz := 3) (ka) hS rfl rfl Try.underlying37 info44 (by repeat (first | with_reducible exact Pk.here | with_reducible apply Pk.there)) rfl (by first | rfl | omega) (by omega) | exact Yld.indexB (sz := 3) (ka) hS rfl rfl Try.underlying37 info44 rfl (by first | rfl | omega) (by omega))) (by decide) ?_; clear hS; intro aa hS
      refine sA hS hR (Yld.loadAgg (vs := [.int .u8 (acts[ka]'(by omega)).1, .int .i64 (acts[ka]'(by omega)).2.1, .int .i64 (acts[ka]'(by omega)).2.2]) hS rfl Try.underlying44 rfl info44 (Rds.rec (enc := eA) (xs := acts) (k := ka) (by repeat (first | with_reducible exact Pk.here | with_reducible apply Pk.there)) (by intro _; rfl) (by omega)) (by rfl)) (by decide) ?_; clear hS; intro aa hS
      refine sB (Bcall hS rfl Try.call22 (act14_ok (hacts _ (List.getElem_mem (by omega))) ((hR.pk (r := refA _ _ _ _ _ _ _) (by repeat (first | with_reducible exact Pk.here | with_reducible apply Pk.there))).pk (r := linksA _ _ _ _ _ _ _) (by repeat (first | with_reducible exact Pk.here | with_reducible apply Pk.there)))) (by decide) ?_); clear hS; intro aa ww vv hS hp
      clear hR
      obtain ⟨L3, rfl, hR⟩ := hp
      refine sA hS hR (Yld.not hS rfl) (by decide) ?_; clear hS; intro aa hS
      refine wpList_nil ?_
      refine hK746 _ _ ?_
      refine condF hS rfl ?_
      refine wp_skip ?_
      refine hK745 _ _ ?_
      refine wp_region_lit ?_
      refine sA hS hR (Yld.move hS rfl) (by decide) ?_; clear hS; intro aa hS
      refine sA hS hR ((by first | exact Yld.add64 hS rfl rfl (by omega) | exact Yld.add hS rfl rfl)) (by decide) ?_; clear hS; intro aa hS
      refine sA hS hR (Yld.move hS rfl) (by decide) ?_; clear hS; intro aa hS
      refine sA hS hR ((by first | exact Yld.quo64 hS rfl rfl (by omega) | exact Yld.quo hS rfl rfl (by omega))) (by decide) ?_; clear hS; intro aa hS
      replace hS := hS.say (t := 56) (.int .i64 ((k / 11 : Nat) : Int)) rfl (by rw [show ((k / 11 : Nat) : Int) = (k : Int) / 11 from by omega])
      refine sA hS hR (Yld.assign hS rfl) (by decide) ?_; clear hS; intro aa hS
      refine sA hS hR (Yld.assign hS rfl) (by decide) ?_; clear hS; intro aa hS
      refine wpList_nil ?_
      
      refine ⟨(i + 1, k / 11, _), ?_, ?_, hS.le (Le.cons rfl (Le.cons rfl (Le.nilapp (Le.cons rfl (Le.cons rfl (Le.cons rfl (Le.cons rfl (Le.cons rfl (Le.cons rfl (Le.cons rfl (Le.cons rfl (Le.cons rfl (Le.cons rfl (Le.cons rfl (Le.cons rfl (Le.cons rfl (Le.cons rfl (Le.cons rfl (Le.cons rfl (Le.cons rfl (Le.cons rfl (Le.cons rfl (Le.cons rfl (Le.nil _)))))))))))))))))))))))), hR.sub (Ex.take (by repeat (first | with_reducible exact Pk.here | with_reducible apply Pk.there)) (Ex.take (by repeat (first | with_reducible exact Pk.here | with_reducible apply Pk.there)) (Ex.nilapp (by repeat (first | with_reducible exact Ex.refl | (with_reducible apply Ex.take; · repeat (first | with_reducible exact Pk.here | with_reducible apply Pk.there)) | with_reducible apply Ex.drop)))))⟩
      · exact ⟨by omega, by dsimp only; omega⟩
      · dsimp only; omega
    · intro hg hS
      refine condF hS rfl ?_
      refine wp_exit ?_
      refine hK740 _ _ ?_
      refine wp_seq_k ?_; intro K747 hK747
      refine wp_region_lit ?_
      refine sA hS hR (Yld.move hS rfl) (by decide) ?_; clear hS; intro aa hS
      refine sA hS hR (Yld.move hS rfl) (by decide) ?_; clear hS; intro aa hS
      refine sB (Bcall hS rfl Try.call25 (same14_ok ((hR.pk (r := refA _ _ _ _ _ _ _) (by repeat (first | with_reducible exact Pk.here | with_reducible apply Pk.there))).pk (r := linksA _ _ _ _ _ _ _) (by repeat (first | with_reducible exact Pk.here | with_reducible apply Pk.there)))) (by decide) ?_); clear hS; intro aa ww vv hS hp
      clear hR
      obtain ⟨rfl, hR⟩ := hp
      refine sA hS hR (Yld.not hS rfl) (by decide) ?_; clear hS; intro aa hS
      refine wpList_nil ?_
      refine hK747 _ _ ?_
      refine condF hS rfl ?_
      refine wp_skip ?_
      refine hK734 _ _ ?_
      refine wp_region_lit ?_
      refine sA hS hR ((by first | exact Yld.add64 hS rfl rfl (by omega) | exact Yld.add hS rfl rfl)) (by decide) ?_; clear hS; intro aa hS
      refine sA hS hR (Yld.move hS rfl) (by decide) ?_; clear hS; intro aa hS
      refine wpList_nil ?_
      
      refine ⟨way + 1, ?_, ?_, hS.le (Le.cons rfl (Le.nilapp (Le.cons rfl (Le.nil _)))), hR.sub (Ex.nilapp (by repeat (first | with_reducible exact Ex.refl | (with_reducible apply Ex.take; · repeat (first | with_reducible exact Pk.here | with_reducible apply Pk.there)) | with_reducible apply Ex.drop)))⟩
      · omega
      · omega
  · intro hg hS
    refine condF hS rfl ?_
    refine wp_exit ?_
    refine hK729 _ _ ?_
    refine wp_seq_k ?_; intro K748 hK748
    refine wp_seq_k ?_; intro K749 hK749
    refine wp_region_lit ?_
    refine sA hS hR (Yld.build hS rfl (bld49_0_1 _ _)) (by decide) ?_; clear hS; intro aa hS
    refine sA hS hR (Yld.build hS rfl (bld49_0_1 _ _)) (by decide) ?_; clear hS; intro aa hS
    refine sA hS hR (Yld.build hS rfl (bld49_0_1 _ _)) (by decide) ?_; clear hS; intro aa hS
    refine sA hS hR (Yld.build hS rfl (bld49_0_1 _ _)) (by decide) ?_; clear hS; intro aa hS
    refine sA hS hR (Yld.build hS rfl (bld49_0_1 _ _)) (by decide) ?_; clear hS; intro aa hS
    refine sA hS hR (Yld.build hS rfl (bld49_0_1 _ _)) (by decide) ?_; clear hS; intro aa hS
    refine sA hS hR (Yld.build hS rfl (bld49_0_1 _ _)) (by decide) ?_; clear hS; intro aa hS
    refine sA hS hR (Yld.build hS rfl (bld49_0_1 _ _)) (by decide) ?_; clear hS; intro aa hS
    refine sB (BbuildSlice hS hR rfl (bls50_8_0_1_2_3_4_5_6_7 _ _ _ _ _ _ _ _ _ _ _ _ _ _ _ _) (by decide) ?_); clear hS hR; intro aa ww bb79 hS hR
    replace hR := hR.pk (r := blk bb79 _ _) (by repeat (first | with_reducible exact Pk.here | with_reducible apply Pk.there))
    replace hR := Sep.toRecs (m := 8) (sz := 2) (enc := eQ) [(0, 1), (1, 0), (1, 1), (8192, 4096), (8193, 1), (1, 4097), (-1, 5), (5, 4611686018427387904)] hR rfl (by intro _; rfl) rfl
    obtain ⟨prs, hpl, hR⟩ : ∃ prs : List (Int × Int), prs.length = 8 ∧ Sep (sls (some ⟨bb79, 0, none⟩) 8 8 49 2 (prs.flatMap eQ) :: _) _ := ⟨_, rfl, hR⟩
    refine sA hS hR (Yld.len hS rfl Try.underlying50) (by decide) ?_; clear hS; intro aa hS
    refine sA hS hR (Yld.move hS rfl) (by decide) ?_; clear hS; intro aa hS
    refine wpList_nil ?_
    refine hK749 _ _ ?_
    refine wp_block ?_
    refine loopI (X := Nat) [(79, _), (80, _)] (fun x => [(81, .int .i64 (x : Int))]) (fun x => []) _ (fun x => x ≤ 8) (fun x => 8 - x) 0 (Nat.zero_le _) (hS.le (Le.cons rfl (Le.nilapp (Le.cons rfl (Le.cons rfl (Le.nil _)))))) hR ?_
    clear hS hR; rintro i aa ww hI hS hR; dsimp only [List.cons_append, List.nil_append] at hI hS hR
    refine wp_seq_k ?_; intro K751 hK751
    refine wp_region_lit ?_
    refine sA hS hR (Yld.lss hS rfl rfl) (by decide) ?_; clear hS; intro aa hS
    refine wpList_nil ?_
    refine hK751 _ _ ?_
    refine wp_seq_k ?_; intro K752 hK752
    refine hS.splitB (t := 82) rfl ?_ ?_ <;> clear hS
    · intro hg hS
      refine condT hS rfl ?_
      refine wp_skip ?_
      refine hK752 _ _ ?_
      refine wp_seq_k ?_; intro K753 hK753
      refine wp_block ?_
      refine wp_seq_k ?_; intro K754 hK754
      refine wp_region_lit ?_
      refine sA hS hR ((by first | exact Yld.indexH (sz := 2) (i) hS rfl rfl Try.underlying50 info49 (by assumption) rfl (by first | rfl | omega) (by omega) | exact Yld.indexL (sz := 2) (i) hS rfl rfl Try.underlying50 info49 (by repeat (first | with_reducible exact Pk.here | with_reducible apply Pk.there)) rfl (by first | rfl | omega) (by omega) | exact Yld.indexB (sz := 2) (i) hS rfl rfl Try.underlying50 info49 rfl (by first | rfl | omega) (by omega))) (by decide) ?_; clear hS; intro aa hS
      refine sA hS hR (Yld.loadAgg (vs := [.int .i64 (prs[i]'(by omega)).1, .int .i64 (prs[i]'(by omega)).2]) hS rfl Try.underlying49 rfl info49 (Rds.rec (enc := eQ) (xs := prs) (k := i) (by repeat (first | with_reducible exact Pk.here | with_reducible apply Pk.there)) (by intro _; rfl) (by omega)) (by rfl)) (by decide) ?_; clear hS; intro aa hS
      obtain ⟨v0, hv0⟩ : ∃ y, (prs[i]'(by omega)).1 = y := ⟨_, rfl⟩
      obtain ⟨v1, hv1⟩ : ∃ y, (prs[i]'(by omega)).2 = y := ⟨_, rfl⟩
      rw [hv0, hv1] at hS
      refine sB (Balloc hS hR info49 (by rfl) (by rfl) (by decide) ?_); clear hS hR; intro aa ww bb9 hS hR
      refine sB (Bstore hS hR rfl rfl (by rfl) info49 (by rfl) (by repeat (first | with_reducible exact Pk.here | with_reducible apply Pk.there)) (by rfl) (Nat.le_of_ble_eq_true rfl) ?_); clear hR; intro ww hR
      refine wpList_nil ?_
      refine hK754 _ _ ?_
      refine wp_seq_k ?_; intro K755 hK755
      refine wp_region_lit ?_
      refine sA hS hR (Yld.to (u := .pointer (some ⟨bb9, 0, none⟩)) (Yld.indexArr hS rfl rfl Try.underlying49 info3 (by omega) (by omega)) (by rfl)) (by decide) ?_; clear hS; intro aa hS
      refine sA hS hR (Yld.load1 hS rfl Try.underlying3 rfl (by first | exact Rd.blk (by repeat (first | with_reducible exact Pk.here | with_reducible apply Pk.there)) (by rfl) | exact Rd.rec (by repeat (first | with_reducible exact Pk.here | with_reducible apply Pk.there)) (by intro _; rfl) (by omega) rfl | exact Rd.rec0 (by repeat (first | with_reducible exact Pk.here | with_reducible apply Pk.there)) (by intro _; rfl) (by omega) rfl | exact Rd.flatJ (by repeat (first | with_reducible exact Pk.here | with_reducible apply Pk.there)) (by intro _; rfl) (by omega) rfl | exact Rd.flat0 (by repeat (first | with_reducible exact Pk.here | with_reducible apply Pk.there)) (by intro _; rfl) (by omega) rfl)) (by decide) ?_; clear hS; intro aa hS
      refine sA hS hR (Yld.to (u := .pointer (some ⟨bb9, 1, none⟩)) (Yld.indexArr hS rfl rfl Try.underlying49 info3 (by omega) (by omega)) (by rfl)) (by decide) ?_; clear hS; intro aa hS
      refine sA hS hR (Yld.load1 hS rfl Try.underlying3 rfl (by first | exact Rd.blk (by repeat (first | with_reducible exact Pk.here | with_reducible apply Pk.there)) (by rfl) | exact Rd.rec (by repeat (first | with_reducible exact Pk.here | with_reducible apply Pk.there)) (by intro _; rfl) (by omega) rfl | exact Rd.rec0 (by repeat (first | with_reducible exact Pk.here | with_reducible apply Pk.there)) (by intro _; rfl) (by omega) rfl | exact Rd.flatJ (by repeat (first | with_reducible exact Pk.here | with_reducible apply Pk.there)) (by intro _; rfl) (by omega) rfl | exact Rd.flat0 (by repeat (first | with_reducible exact Pk.here | with_reducible apply Pk.there)) (by intro _; rfl) (by omega) rfl)) (by decide) ?_; clear hS; intro aa hS
      by_cases hn : 1 ≤ v0 ∧ v0 ≤ 8192 ∧ 1 ≤ v1 ∧ v1 ≤ 4096
      ·
        obtain ⟨S, hS0⟩ : ∃ y : Nat, v0 = y := ⟨v0.toNat, by omega⟩
        obtain ⟨m, hm⟩ : ∃ y : Nat, v1 = y := ⟨v1.toNat, by omega⟩
        rw [hS0, hm] at hS hR
        refine sB (Bcall hS rfl Try.call19 (LNew_ok (S := S) (n := m) hR (by omega) (by omega) (by omega) (by omega)) (by decide) ?_); clear hS; intro aa ww vv hS hp
        clear hR
        obtain ⟨b, rfl, hR⟩ := hp
        refine sA hS hR (Yld.move hS rfl) (by decide) ?_; clear hS; intro aa hS
        refine sA hS hR (Yld.extract hS rfl rfl) (by decide) ?_; clear hS; intro aa hS
        refine sA hS hR (Yld.extract hS rfl rfl) (by decide) ?_; clear hS; intro aa hS
        refine sA hS hR (Yld.assign hS rfl) (by decide) ?_; clear hS; intro aa hS
        refine sA hS hR (Yld.assign hS rfl) (by decide) ?_; clear hS; intro aa hS
        refine wpList_nil ?_
        refine hK755 _ _ ?_
        refine wp_seq_k ?_; intro K756 hK756
        refine wp_region_lit ?_
        refine sA hS hR (Yld.move hS rfl) (by decide) ?_; clear hS; intro aa hS
        refine sA hS hR (Yld.eql hS rfl rfl) (by decide) ?_; clear hS; intro aa hS
        replace hS := hS.sayB (t := 94) true rfl (by decide)
        refine sA hS hR (Yld.to (u := .pointer (some ⟨bb9, 0, none⟩)) (Yld.indexArr hS rfl rfl Try.underlying49 info3 (by omega) (by omega)) (by rfl)) (by decide) ?_; clear hS; intro aa hS
        refine sA hS hR (Yld.load1 hS rfl Try.underlying3 rfl (by first | exact Rd.blk (by repeat (first | with_reducible exact Pk.here | with_reducible apply Pk.there)) (by rfl) | exact Rd.rec (by repeat (first | with_reducible exact Pk.here | with_reducible apply Pk.there)) (by intro _; rfl) (by omega) rfl | exact Rd.rec0 (by repeat (first | with_reducible exact Pk.here | with_reducible apply Pk.there)) (by intro _; rfl) (by omega) rfl | exact Rd.flatJ (by repeat (first | with_reducible exact Pk.here | with_reducible apply Pk.there)) (by intro _; rfl) (by omega) rfl | exact Rd.flat0 (by repeat (first | with_reducible exact Pk.here | with_reducible apply Pk.there)) (by intro _; rfl) (by omega) rfl)) (by decide) ?_; clear hS; intro aa hS
        refine sA hS hR (Yld.to (u := .pointer (some ⟨bb9, 1, none⟩)) (Yld.indexArr hS rfl rfl Try.underlying49 info3 (by omega) (by omega)) (by rfl)) (by decide) ?_; clear hS; intro aa hS
        refine sA hS hR (Yld.load1 hS rfl Try.underlying3 rfl (by first | exact Rd.blk (by repeat (first | with_reducible exact Pk.here | with_reducible apply Pk.there)) (by rfl) | exact Rd.rec (by repeat (first | with_reducible exact Pk.here | with_reducible apply Pk.there)) (by intro _; rfl) (by omega) rfl | exact Rd.rec0 (by repeat (first | with_reducible exact Pk.here | with_reducible apply Pk.there)) (by intro _; rfl) (by omega) rfl | exact Rd.flatJ (by repeat (first | with_reducible exact Pk.here | with_reducible apply Pk.there)) (by intro _; rfl) (by omega) rfl | exact Rd.flat0 (by repeat (first | with_reducible exact Pk.here | with_reducible apply Pk.there)) (by intro _; rfl) (by omega) rfl)) (by decide) ?_; clear hS; intro aa hS
        refine sB (Bcall hS rfl Try.call20 (RRight_ok hR) (by decide) ?_); clear hS; intro aa ww vv hS hp
        clear hR
        obtain ⟨rfl, hR⟩ := hp
        refine sA hS hR (Yld.neqB hS rfl rfl Try.underlying4) (by decide) ?_; clear hS; intro aa hS
        replace hS := hS.sayB (t := 100) false rfl (by rw [decide_eq_true (by omega)]; rfl)
        refine sA hS hR (Yld.move hS rfl) (by decide) ?_; clear hS; intro aa hS
        refine sAg hS hR rfl rfl (Yld.move hS rfl) (by decide) ?_; clear hS; intro aa hS
        refine sAg hS hR rfl rfl (Yld.eql hS rfl rfl) (by decide) ?_; clear hS; intro aa hS
        replace hS := hS.sayB (t := 103) true rfl (by decide)
        refine sAg hS hR rfl rfl (Yld.move hS rfl) (by decide) ?_; clear hS; intro aa hS
        refine sAg hS hR rfl rfl (Yld.move hS rfl) (by decide) ?_; clear hS; intro aa hS
        refine sAg hS hR rfl rfl (Yld.eqlNil hS rfl rfl Try.underlying23) (by decide) ?_; clear hS; intro aa hS
        replace hS := hS.sayB (t := 106) false rfl (by rfl)
        refine sAg hS hR rfl rfl (Yld.move hS rfl) (by decide) ?_; clear hS; intro aa hS
        refine sAg hS hR rfl rfl (Yld.move hS rfl) (by decide) ?_; clear hS; intro aa hS
        refine sAg hS hR rfl rfl (Yld.to (u := .pointer (some ⟨bb9, 1, none⟩)) (Yld.indexArr hS rfl rfl Try.underlying49 info3 (by omega) (by omega)) (by rfl)) (by decide) ?_; clear hS; intro aa hS
        refine sAg hS hR rfl rfl (Yld.load1 hS rfl Try.underlying3 rfl (by first | exact Rd.blk (by repeat (first | with_reducible exact Pk.here | with_reducible apply Pk.there)) (by rfl) | exact Rd.rec (by repeat (first | with_reducible exact Pk.here | with_reducible apply Pk.there)) (by intro _; rfl) (by omega) rfl | exact Rd.rec0 (by repeat (first | with_reducible exact Pk.here | with_reducible apply Pk.there)) (by intro _; rfl) (by omega) rfl | exact Rd.flatJ (by repeat (first | with_reducible exact Pk.here | with_reducible apply Pk.there)) (by intro _; rfl) (by omega) rfl | exact Rd.flat0 (by repeat (first | with_reducible exact Pk.here | with_reducible apply Pk.there)) (by intro _; rfl) (by omega) rfl)) (by decide) ?_; clear hS; intro aa hS
        refine sAg hS hR rfl rfl ((by first | exact Yld.sub64 hS rfl rfl (by omega) | exact Yld.sub hS rfl rfl)) (by decide) ?_; clear hS; intro aa hS
        replace hS := hS.say (t := 111) (.int .i64 ((m - 1 : Nat) : Int)) rfl (by rw [show ((m - 1 : Nat) : Int) = (m : Int) - 1 from by omega])
        refine sAg hS hR rfl rfl (Yld.to (u := .pointer (some ⟨bb9, 0, none⟩)) (Yld.indexArr hS rfl rfl Try.underlying49 info3 (by omega) (by omega)) (by rfl)) (by decide) ?_; clear hS; intro aa hS
        refine sAg hS hR rfl rfl (Yld.load1 hS rfl Try.underlying3 rfl (by first | exact Rd.blk (by repeat (first | with_reducible exact Pk.here | with_reducible apply Pk.there)) (by rfl) | exact Rd.rec (by repeat (first | with_reducible exact Pk.here | with_reducible apply Pk.there)) (by intro _; rfl) (by omega) rfl | exact Rd.rec0 (by repeat (first | with_reducible exact Pk.here | with_reducible apply Pk.there)) (by intro _; rfl) (by omega) rfl | exact Rd.flatJ (by repeat (first | with_reducible exact Pk.here | with_reducible apply Pk.there)) (by intro _; rfl) (by omega) rfl | exact Rd.flat0 (by repeat (first | with_reducible exact Pk.here | with_reducible apply Pk.there)) (by intro _; rfl) (by omega) rfl)) (by decide) ?_; clear hS; intro aa hS
        refine sAg hS hR rfl rfl ((by first | exact Yld.sub64 hS rfl rfl (by omega) | exact Yld.sub hS rfl rfl)) (by decide) ?_; clear hS; intro aa hS
        replace hS := hS.say (t := 114) (.int .i64 ((S - 1 : Nat) : Int)) rfl (by rw [show ((S - 1 : Nat) : Int) = (S : Int) - 1 from by omega])
        refine sBg hS rfl rfl (Bcall hS rfl Try.call17 (LBack_ok (x := ((m - 1 : Nat) : Int)) (y := ((S - 1 : Nat) : Int)) (hR.pk (r := linksA _ _ _ _ _ _ _) (by repeat (first | with_reducible exact Pk.here | with_reducible apply Pk.there)))) (by decide) ?_); clear hS; intro aa ww vv hS hp
        clear hR
        obtain ⟨rfl, hR⟩ := hp
        rw [addE_new (by omega) (by omega) (ofL_none.2 (by simp))] at hS
        rw [addS_new (by omega) (by omega) (ofL_none.2 (by simp))] at hR
        refine sAg hS hR rfl rfl (Yld.neq hS rfl rfl) (by decide) ?_; clear hS; intro aa hS
        replace hS := hS.sayB (t := 116) false rfl (by decide)
        refine sAg hS hR rfl rfl (Yld.pickF hS rfl rfl) (by decide) ?_; clear hS; intro aa hS
        refine sAg hS hR rfl rfl (Yld.move hS rfl) (by decide) ?_; clear hS; intro aa hS
        refine sAg hS hR rfl rfl (Yld.move hS rfl) (by decide) ?_; clear hS; intro aa hS
        refine sAg hS hR rfl rfl (Yld.to (u := .pointer (some ⟨bb9, 1, none⟩)) (Yld.indexArr hS rfl rfl Try.underlying49 info3 (by omega) (by omega)) (by rfl)) (by decide) ?_; clear hS; intro aa hS
        refine sAg hS hR rfl rfl (Yld.load1 hS rfl Try.underlying3 rfl (by first | exact Rd.blk (by repeat (first | with_reducible exact Pk.here | with_reducible apply Pk.there)) (by rfl) | exact Rd.rec (by repeat (first | with_reducible exact Pk.here | with_reducible apply Pk.there)) (by intro _; rfl) (by omega) rfl | exact Rd.rec0 (by repeat (first | with_reducible exact Pk.here | with_reducible apply Pk.there)) (by intro _; rfl) (by omega) rfl | exact Rd.flatJ (by repeat (first | with_reducible exact Pk.here | with_reducible apply Pk.there)) (by intro _; rfl) (by omega) rfl | exact Rd.flat0 (by repeat (first | with_reducible exact Pk.here | with_reducible apply Pk.there)) (by intro _; rfl) (by omega) rfl)) (by decide) ?_; clear hS; intro aa hS
        refine sAg hS hR rfl rfl ((by first | exact Yld.sub64 hS rfl rfl (by omega) | exact Yld.sub hS rfl rfl)) (by decide) ?_; clear hS; intro aa hS
        replace hS := hS.say (t := 122) (.int .i64 ((m - 1 : Nat) : Int)) rfl (by rw [show ((m - 1 : Nat) : Int) = (m : Int) - 1 from by omega])
        refine sBg hS rfl rfl (Bcall hS rfl Try.call26 (LLen_ok (x := ((m - 1 : Nat) : Int)) (hR.pk (r := linksA _ _ _ _ _ _ _) (by repeat (first | with_reducible exact Pk.here | with_reducible apply Pk.there)))) (by decide) ?_); clear hS; intro aa ww vv hS hp
        clear hR
        obtain ⟨rfl, hR⟩ := hp
        rw [allS_nat (by omega), upd_eq, addL_len] at hS
        refine sAg hS hR rfl rfl (Yld.neq hS rfl rfl) (by decide) ?_; clear hS; intro aa hS
        replace hS := hS.sayB (t := 124) false rfl (by rfl)
        refine sAg hS hR rfl rfl (Yld.pickF hS rfl rfl) (by decide) ?_; clear hS; intro aa hS
        refine sAg hS hR rfl rfl (Yld.pickT hS rfl rfl) (by decide) ?_; clear hS; intro aa hS
        refine sA hS hR (Yld.pickF hS rfl rfl) (by decide) ?_; clear hS; intro aa hS
        refine wpList_nil ?_
        refine hK756 _ _ ?_
        refine condF hS rfl ?_
        refine wp_skip ?_
        refine hK753 _ _ ?_
        refine wp_region_lit ?_
        refine sA hS hR ((by first | exact Yld.add64 hS rfl rfl (by omega) | exact Yld.add hS rfl rfl)) (by decide) ?_; clear hS; intro aa hS
        refine sA hS hR (Yld.move hS rfl) (by decide) ?_; clear hS; intro aa hS
        refine wpList_nil ?_
        
        refine ⟨i + 1, ?_, ?_, hS.le (Le.cons rfl (Le.nilapp (Le.cons rfl (Le.cons rfl (Le.nil _))))), hR.sub (Ex.nilapp (by repeat (first | with_reducible exact Ex.refl | (with_reducible apply Ex.take; · repeat (first | with_reducible exact Pk.here | with_reducible apply Pk.there)) | with_reducible apply Ex.drop)))⟩
        · omega
        · omega
      ·
        refine sB (Bcall hS rfl Try.call19 (LNew_bad hR hn) (by decide) ?_); clear hS; intro aa ww vv hS hp
        clear hR
        obtain ⟨rfl, hR⟩ := hp
        refine sA hS hR (Yld.move hS rfl) (by decide) ?_; clear hS; intro aa hS
        refine sA hS hR (Yld.extract hS rfl rfl) (by decide) ?_; clear hS; intro aa hS
        refine sA hS hR (Yld.extract hS rfl rfl) (by decide) ?_; clear hS; intro aa hS
        refine sA hS hR (Yld.assign hS rfl) (by decide) ?_; clear hS; intro aa hS
        refine sA hS hR (Yld.assign hS rfl) (by decide) ?_; clear hS; intro aa hS
        refine wpList_nil ?_
        refine hK755 _ _ ?_
        refine wp_seq_k ?_; intro K757 hK757
        refine wp_region_lit ?_
        refine sA hS hR (Yld.move hS rfl) (by decide) ?_; clear hS; intro aa hS
        refine sA hS hR (Yld.eql hS rfl rfl) (by decide) ?_; clear hS; intro aa hS
        replace hS := hS.sayB (t := 94) false rfl (by decide)
        refine sA hS hR (Yld.to (u := .pointer (some ⟨bb9, 0, none⟩)) (Yld.indexArr hS rfl rfl Try.underlying49 info3 (by omega) (by omega)) (by rfl)) (by decide) ?_; clear hS; intro aa hS
        refine sA hS hR (Yld.load1 hS rfl Try.underlying3 rfl (by first | exact Rd.blk (by repeat (first | with_reducible exact Pk.here | with_reducible apply Pk.there)) (by rfl) | exact Rd.rec (by repeat (first | with_reducible exact Pk.here | with_reducible apply Pk.there)) (by intro _; rfl) (by omega) rfl | exact Rd.rec0 (by repeat (first | with_reducible exact Pk.here | with_reducible apply Pk.there)) (by intro _; rfl) (by omega) rfl | exact Rd.flatJ (by repeat (first | with_reducible exact Pk.here | with_reducible apply Pk.there)) (by intro _; rfl) (by omega) rfl | exact Rd.flat0 (by repeat (first | with_reducible exact Pk.here | with_reducible apply Pk.there)) (by intro _; rfl) (by omega) rfl)) (by decide) ?_; clear hS; intro aa hS
        refine sA hS hR (Yld.to (u := .pointer (some ⟨bb9, 1, none⟩)) (Yld.indexArr hS rfl rfl Try.underlying49 info3 (by omega) (by omega)) (by rfl)) (by decide) ?_; clear hS; intro aa hS
        refine sA hS hR (Yld.load1 hS rfl Try.underlying3 rfl (by first | exact Rd.blk (by repeat (first | with_reducible exact Pk.here | with_reducible apply Pk.there)) (by rfl) | exact Rd.rec (by repeat (first | with_reducible exact Pk.here | with_reducible apply Pk.there)) (by intro _; rfl) (by omega) rfl | exact Rd.rec0 (by repeat (first | with_reducible exact Pk.here | with_reducible apply Pk.there)) (by intro _; rfl) (by omega) rfl | exact Rd.flatJ (by repeat (first | with_reducible exact Pk.here | with_reducible apply Pk.there)) (by intro _; rfl) (by omega) rfl | exact Rd.flat0 (by repeat (first | with_reducible exact Pk.here | with_reducible apply Pk.there)) (by intro _; rfl) (by omega) rfl)) (by decide) ?_; clear hS; intro aa hS
        refine sB (Bcall hS rfl Try.call20 (RRight_ok hR) (by decide) ?_); clear hS; intro aa ww vv hS hp
        clear hR
        obtain ⟨rfl, hR⟩ := hp
        refine sA hS hR (Yld.neqB hS rfl rfl Try.underlying4) (by decide) ?_; clear hS; intro aa hS
        replace hS := hS.sayB (t := 100) false rfl (by rw [decide_eq_false hn]; rfl)
        refine sA hS hR (Yld.move hS rfl) (by decide) ?_; clear hS; intro aa hS
        refine sAg hS hR rfl rfl (Yld.move hS rfl) (by decide) ?_; clear hS; intro aa hS
        refine sAg hS hR rfl rfl (Yld.eql hS rfl rfl) (by decide) ?_; clear hS; intro aa hS
        replace hS := hS.sayB (t := 103) false rfl (by decide)
        refine sAg hS hR rfl rfl (Yld.move hS rfl) (by decide) ?_; clear hS; intro aa hS
        refine sSkip hS rfl rfl rfl (by decide) ?_; clear hS; intro aa hS
        refine sSkip hS rfl rfl rfl (by decide) ?_; clear hS; intro aa hS
        refine sSkip hS rfl rfl rfl (by decide) ?_; clear hS; intro aa hS
        refine sSkipU hS rfl rfl (by decide) ?_; clear hS; intro aa hS
        refine sSkipU hS rfl rfl (by decide) ?_; clear hS; intro aa hS
        refine sSkipU hS rfl rfl (by decide) ?_; clear hS; intro aa hS
        refine sSkipU hS rfl rfl (by decide) ?_; clear hS; intro aa hS
        refine sSkipU hS rfl rfl (by decide) ?_; clear hS; intro aa hS
        refine sSkipU hS rfl rfl (by decide) ?_; clear hS; intro aa hS
        refine sSkipU hS rfl rfl (by decide) ?_; clear hS; intro aa hS
        refine sSkipU hS rfl rfl (by decide) ?_; clear hS; intro aa hS
        refine sSkipU hS rfl rfl (by decide) ?_; clear hS; intro aa hS
        refine sSkip hS rfl rfl rfl (by decide) ?_; clear hS; intro aa hS
        refine sSkip hS rfl rfl rfl (by decide) ?_; clear hS; intro aa hS
        refine sSkipU hS rfl rfl (by decide) ?_; clear hS; intro aa hS
        refine sSkipU hS rfl rfl (by decide) ?_; clear hS; intro aa hS
        refine sSkipU hS rfl rfl (by decide) ?_; clear hS; intro aa hS
        refine sSkipU hS rfl rfl (by decide) ?_; clear hS; intro aa hS
        refine sSkipU hS rfl rfl (by decide) ?_; clear hS; intro aa hS
        refine sSkipU hS rfl rfl (by decide) ?_; clear hS; intro aa hS
        refine sSkip hS rfl rfl rfl (by decide) ?_; clear hS; intro aa hS
        refine sAg hS hR rfl rfl (Yld.pickF hS rfl rfl) (by decide) ?_; clear hS; intro aa hS
        refine sA hS hR (Yld.pickF hS rfl rfl) (by decide) ?_; clear hS; intro aa hS
        refine wpList_nil ?_
        refine hK757 _ _ ?_
        refine condF hS rfl ?_
        refine wp_skip ?_
        refine hK753 _ _ ?_
        refine wp_region_lit ?_
        refine sA hS hR ((by first | exact Yld.add64 hS rfl rfl (by omega) | exact Yld.add hS rfl rfl)) (by decide) ?_; clear hS; intro aa hS
        refine sA hS hR (Yld.move hS rfl) (by decide) ?_; clear hS; intro aa hS
        refine wpList_nil ?_
        
        refine ⟨i + 1, ?_, ?_, hS.le (Le.cons rfl (Le.nilapp (Le.cons rfl (Le.cons rfl (Le.nil _))))), hR.sub (Ex.nilapp (by repeat (first | with_reducible exact Ex.refl | (with_reducible apply Ex.take; · repeat (first | with_reducible exact Pk.here | with_reducible apply Pk.there)) | with_reducible apply Ex.drop)))⟩
        · omega
        · omega
    · intro hg hS
      refine condF hS rfl ?_
      refine wp_exit ?_
      refine hK748 _ _ ?_
      refine wp_seq_k ?_; intro K758 hK758
      refine wp_seq_k ?_; intro K759 hK759
      refine wp_region_lit ?_
      refine sA hS hR (Yld.build hS rfl (bld54_)) (by decide) ?_; clear hS; intro aa hS
      refine sB (Bbox hS hR rfl (by rfl) (by decide) ?_); clear hS hR; intro aa ww bb130 hS hR
      refine sB (BbuildSlice hS hR rfl (bls55_2_0_1 _ _) (by decide) ?_); clear hS hR; intro aa ww bb131 hS hR
      replace hR := hR.pk (r := blk bb131 _ _) (by repeat (first | with_reducible exact Pk.here | with_reducible apply Pk.there))
      replace hR := Sep.toRecs (m := 2) (sz := 1) (enc := ePs) ([none, some ⟨bb130, 0, none⟩] : List (Option Addr)) hR rfl (by intro _; rfl) rfl
      refine sA hS hR (Yld.len hS rfl Try.underlying55) (by decide) ?_; clear hS; intro aa hS
      refine sA hS hR (Yld.move hS rfl) (by decide) ?_; clear hS; intro aa hS
      refine wpList_nil ?_
      refine hK759 _ _ ?_
      refine wp_block ?_
      refine loopI (X := Nat) [(131, _), (132, _)] (fun x => [(133, .int .i64 (x : Int))]) (fun x => []) _ (fun x => x ≤ 2) (fun x => 2 - x) 0 (Nat.zero_le _) (hS.le (Le.cons rfl (Le.nilapp (Le.cons rfl (Le.cons rfl (Le.nil _)))))) hR ?_
      clear hS hR; rintro i aa ww hI hS hR; dsimp only [List.cons_append, List.nil_append] at hI hS hR
      refine wp_seq_k ?_; intro K761 hK761
      refine wp_region_lit ?_
      refine sA hS hR (Yld.lss hS rfl rfl) (by decide) ?_; clear hS; intro aa hS
      refine wpList_nil ?_
      refine hK761 _ _ ?_
      refine wp_seq_k ?_; intro K762 hK762
      refine hS.splitB (t := 134) rfl ?_ ?_ <;> clear hS
      · intro hg hS
        have hi2 : i < 2 := by omega
        refine condT hS rfl ?_
        refine wp_skip ?_
        refine hK762 _ _ ?_
        refine wp_seq_k ?_; intro K763 hK763
        refine wp_block ?_
        refine wp_seq_k ?_; intro K764 hK764
        refine wp_region_lit ?_
        by_cases hn : i = 0
        ·
          refine sA hS hR ((by first | exact Yld.indexH (sz := 1) (i) hS rfl rfl Try.underlying55 info23 (by assumption) rfl (by first | rfl | omega) (by omega) | exact Yld.indexL (sz := 1) (i) hS rfl rfl Try.underlying55 info23 (by repeat (first | with_reducible exact Pk.here | with_reducible apply Pk.there)) rfl (by first | rfl | omega) (by omega) | exact Yld.indexB (sz := 1) (i) hS rfl rfl Try.underlying55 info23 rfl (by first | rfl | omega) (by omega))) (by decide) ?_; clear hS; intro aa hS
          try have hi1 : i = 1 := by omega
          refine sA hS hR (Yld.load1 hS rfl Try.underlying23 rfl (Rd.rec0 (k := i) (xs := ([none, some ⟨bb130, 0, none⟩] : List (Option Addr))) (v := .pointer none) (by repeat (first | with_reducible exact Pk.here | with_reducible apply Pk.there)) (by intro _; rfl) (by show i < 2; omega) (by simp only [hn]; rfl))) (by decide) ?_; clear hS; intro aa hS
          refine sA hS hR (Yld.assign hS rfl) (by decide) ?_; clear hS; intro aa hS
          refine wpList_nil ?_
          refine hK764 _ _ ?_
          refine wp_seq_k ?_; intro K765 hK765
          refine wp_region_lit ?_
          refine sA hS hR (Yld.move hS rfl) (by decide) ?_; clear hS; intro aa hS
          refine sB (Bcall hS rfl Try.call11 (lOf_n (i := 0) hR) (by decide) ?_); clear hS; intro aa ww vv hS hp
          clear hR
          obtain ⟨rfl, hR⟩ := hp
          refine sA hS hR (Yld.move hS rfl) (by decide) ?_; clear hS; intro aa hS
          refine sA hS hR (Yld.extract hS rfl rfl) (by decide) ?_; clear hS; intro aa hS
          refine sA hS hR (Yld.extract hS rfl rfl) (by decide) ?_; clear hS; intro aa hS
          replace hS := hS.sayB (t := 141) false rfl (by rfl)
          refine sA hS hR (Yld.assign hS rfl) (by decide) ?_; clear hS; intro aa hS
          refine sA hS hR (Yld.assign hS rfl) (by decide) ?_; clear hS; intro aa hS
          refine wpList_nil ?_
          refine hK765 _ _ ?_
          refine wp_seq_k ?_; intro K766 hK766
          refine wp_region_lit ?_
          refine sA hS hR (Yld.move hS rfl) (by decide) ?_; clear hS; intro aa hS
          refine sB (Bcall hS rfl Try.call12 (lFirst_n (i := 0) hR) (by decide) ?_); clear hS; intro aa ww vv hS hp
          clear hR
          obtain ⟨rfl, hR⟩ := hp
          refine sA hS hR (Yld.move hS rfl) (by decide) ?_; clear hS; intro aa hS
          refine sA hS hR (Yld.extract hS rfl rfl) (by decide) ?_; clear hS; intro aa hS
          refine sA hS hR (Yld.extract hS rfl rfl) (by decide) ?_; clear hS; intro aa hS
          replace hS := hS.sayB (t := 146) false rfl (by rfl)
          refine sA hS hR (Yld.assign hS rfl) (by decide) ?_; clear hS; intro aa hS
          refine sA hS hR (Yld.assign hS rfl) (by decide) ?_; clear hS; intro aa hS
          refine wpList_nil ?_
          refine hK766 _ _ ?_
          refine wp_seq_k ?_; intro K767 hK767
          refine wp_region_lit ?_
          refine sA hS hR (Yld.move hS rfl) (by decide) ?_; clear hS; intro aa hS
          refine sB (Bcall hS rfl Try.call13 (lLast_n (i := 0) hR) (by decide) ?_); clear hS; intro aa ww vv hS hp
          clear hR
          obtain ⟨rfl, hR⟩ := hp
          refine sA hS hR (Yld.move hS rfl) (by decide) ?_; clear hS; intro aa hS
          refine sA hS hR (Yld.extract hS rfl rfl) (by decide) ?_; clear hS; intro aa hS
          refine sA hS hR (Yld.extract hS rfl rfl) (by decide) ?_; clear hS; intro aa hS
          replace hS := hS.sayB (t := 151) false rfl (by rfl)
          refine sA hS hR (Yld.assign hS rfl) (by decide) ?_; clear hS; intro aa hS
          refine sA hS hR (Yld.assign hS rfl) (by decide) ?_; clear hS; intro aa hS
          refine wpList_nil ?_
          refine hK767 _ _ ?_
          refine wp_seq_k ?_; intro K768 hK768
          refine wp_region_lit ?_
          refine sA hS hR (Yld.move hS rfl) (by decide) ?_; clear hS; intro aa hS
          refine sB (Bcall hS rfl Try.call27 (lNext_n (i := 0) hR) (by decide) ?_); clear hS; intro aa ww vv hS hp
          clear hR
          obtain ⟨rfl, hR⟩ := hp
          refine sA hS hR (Yld.move hS rfl) (by decide) ?_; clear hS; intro aa hS
          refine sA hS hR (Yld.extract hS rfl rfl) (by decide) ?_; clear hS; intro aa hS
          refine sA hS hR (Yld.extract hS rfl rfl) (by decide) ?_; clear hS; intro aa hS
          replace hS := hS.sayB (t := 156) false rfl (by rfl)
          refine sA hS hR (Yld.assign hS rfl) (by decide) ?_; clear hS; intro aa hS
          refine sA hS hR (Yld.assign hS rfl) (by decide) ?_; clear hS; intro aa hS
          refine wpList_nil ?_
          refine hK768 _ _ ?_
          refine wp_seq_k ?_; intro K769 hK769
          refine wp_region_lit ?_
          refine sA hS hR (Yld.move hS rfl) (by decide) ?_; clear hS; intro aa hS
          refine sB (Bcall hS rfl Try.call28 (lBefore_n (i := 0) hR) (by decide) ?_); clear hS; intro aa ww vv hS hp
          clear hR
          obtain ⟨rfl, hR⟩ := hp
          refine sA hS hR (Yld.move hS rfl) (by decide) ?_; clear hS; intro aa hS
          refine sA hS hR (Yld.extract hS rfl rfl) (by decide) ?_; clear hS; intro aa hS
          refine sA hS hR (Yld.extract hS rfl rfl) (by decide) ?_; clear hS; intro aa hS
          replace hS := hS.sayB (t := 161) false rfl (by rfl)
          refine sA hS hR (Yld.assign hS rfl) (by decide) ?_; clear hS; intro aa hS
          refine sA hS hR (Yld.assign hS rfl) (by decide) ?_; clear hS; intro aa hS
          refine wpList_nil ?_
          refine hK769 _ _ ?_
          refine wp_seq_k ?_; intro K770 hK770
          refine wp_region_lit ?_
          refine sA hS hR (Yld.move hS rfl) (by decide) ?_; clear hS; intro aa hS
          refine sA hS hR (Yld.move hS rfl) (by decide) ?_; clear hS; intro aa hS
          refine sAg hS hR rfl rfl (Yld.move hS rfl) (by decide) ?_; clear hS; intro aa hS
          refine sA hS hR (Yld.pickF hS rfl rfl) (by decide) ?_; clear hS; intro aa hS
          refine sA hS hR (Yld.move hS rfl) (by decide) ?_; clear hS; intro aa hS
          refine sAg hS hR rfl rfl (Yld.move hS rfl) (by decide) ?_; clear hS; intro aa hS
          refine sA hS hR (Yld.pickF hS rfl rfl) (by decide) ?_; clear hS; intro aa hS
          refine sA hS hR (Yld.move hS rfl) (by decide) ?_; clear hS; intro aa hS
          refine sAg hS hR rfl rfl (Yld.move hS rfl) (by decide) ?_; clear hS; intro aa hS
          refine sA hS hR (Yld.pickF hS rfl rfl) (by decide) ?_; clear hS; intro aa hS
          refine sA hS hR (Yld.move hS rfl) (by decide) ?_; clear hS; intro aa hS
          refine sAg hS hR rfl rfl (Yld.move hS rfl) (by decide) ?_; clear hS; intro aa hS
          refine sA hS hR (Yld.pickF hS rfl rfl) (by decide) ?_; clear hS; intro aa hS
          refine sA hS hR (Yld.move hS rfl) (by decide) ?_; clear hS; intro aa hS
          refine sAg hS hR rfl rfl (Yld.move hS rfl) (by decide) ?_; clear hS; intro aa hS
          refine sBg hS rfl rfl (Bcall hS rfl Try.call26 (lLen_n (i := 0) hR) (by decide) ?_); clear hS; intro aa ww vv hS hp
          clear hR
          obtain ⟨rfl, hR⟩ := hp
          refine sAg hS hR rfl rfl (Yld.move hS rfl) (by decide) ?_; clear hS; intro aa hS
          refine sBg hS rfl rfl (Bcall hS rfl Try.call10 (lAll_n (i := 0) hR) (by decide) ?_); clear hS; intro aa ww vv hS hp
          clear hR
          obtain ⟨rfl, hR⟩ := hp
          refine sAg hS hR rfl rfl (Yld.len hS rfl Try.underlying27) (by decide) ?_; clear hS; intro aa hS
          refine sAg hS hR rfl rfl ((by first | exact Yld.add64 hS rfl rfl (by omega) | exact Yld.add hS rfl rfl)) (by decide) ?_; clear hS; intro aa hS
          refine sAg hS hR rfl rfl (Yld.neq hS rfl rfl) (by decide) ?_; clear hS; intro aa hS
          replace hS := hS.sayB (t := 182) false rfl (by decide)
          refine sA hS hR (Yld.pickF hS rfl rfl) (by decide) ?_; clear hS; intro aa hS
          refine sA hS hR (Yld.move hS rfl) (by decide) ?_; clear hS; intro aa hS
          refine sAg hS hR rfl rfl (Yld.move hS rfl) (by decide) ?_; clear hS; intro aa hS
          refine sBg hS rfl rfl (Bcall hS rfl Try.call14 (lFront_n (i := 0) (j := 0) hR) (by decide) ?_); clear hS; intro aa ww vv hS hp
          clear hR
          obtain ⟨rfl, hR⟩ := hp
          refine sAg hS hR rfl rfl (Yld.neq hS rfl rfl) (by decide) ?_; clear hS; intro aa hS
          replace hS := hS.sayB (t := 187) false rfl (by decide)
          refine sA hS hR (Yld.pickF hS rfl rfl) (by decide) ?_; clear hS; intro aa hS
          refine sA hS hR (Yld.move hS rfl) (by decide) ?_; clear hS; intro aa hS
          refine sAg hS hR rfl rfl (Yld.move hS rfl) (by decide) ?_; clear hS; intro aa hS
          refine sBg hS rfl rfl (Bcall hS rfl Try.call17 (lBack_n (i := 0) (j := 0) hR) (by decide) ?_); clear hS; intro aa ww vv hS hp
          clear hR
          obtain ⟨rfl, hR⟩ := hp
          refine sAg hS hR rfl rfl (Yld.neq hS rfl rfl) (by decide) ?_; clear hS; intro aa hS
          replace hS := hS.sayB (t := 192) false rfl (by decide)
          refine sA hS hR (Yld.pickF hS rfl rfl) (by decide) ?_; clear hS; intro aa hS
          refine sA hS hR (Yld.move hS rfl) (by decide) ?_; clear hS; intro aa hS
          refine sAg hS hR rfl rfl (Yld.move hS rfl) (by decide) ?_; clear hS; intro aa hS
          refine sBg hS rfl rfl (Bcall hS rfl Try.call16 (lOut_n (i := 0) hR) (by decide) ?_); clear hS; intro aa ww vv hS hp
          clear hR
          obtain ⟨rfl, hR⟩ := hp
          refine sAg hS hR rfl rfl (Yld.neq hS rfl rfl) (by decide) ?_; clear hS; intro aa hS
          replace hS := hS.sayB (t := 197) false rfl (by decide)
          refine sA hS hR (Yld.pickF hS rfl rfl) (by decide) ?_; clear hS; intro aa hS
          refine sA hS hR (Yld.move hS rfl) (by decide) ?_; clear hS; intro aa hS
          refine sAg hS hR rfl rfl (Yld.move hS rfl) (by decide) ?_; clear hS; intro aa hS
          refine sBg hS rfl rfl (Bcall hS rfl Try.call29 (lJoin_n (i := 0) (j := 1) hR) (by decide) ?_); clear hS; intro aa ww vv hS hp
          clear hR
          obtain ⟨rfl, hR⟩ := hp
          refine sAg hS hR rfl rfl (Yld.neq hS rfl rfl) (by decide) ?_; clear hS; intro aa hS
          replace hS := hS.sayB (t := 202) false rfl (by decide)
          refine sA hS hR (Yld.pickF hS rfl rfl) (by decide) ?_; clear hS; intro aa hS
          refine wpList_nil ?_
          refine hK770 _ _ ?_
          refine condF hS rfl ?_
          refine wp_skip ?_
          refine hK763 _ _ ?_
          refine wp_region_lit ?_
          refine sA hS hR ((by first | exact Yld.add64 hS rfl rfl (by omega) | exact Yld.add hS rfl rfl)) (by decide) ?_; clear hS; intro aa hS
          refine sA hS hR (Yld.move hS rfl) (by decide) ?_; clear hS; intro aa hS
          refine wpList_nil ?_
          
          refine ⟨i + 1, ?_, ?_, hS.le (Le.cons rfl (Le.nilapp (Le.cons rfl (Le.cons rfl (Le.nil _))))), hR.sub (Ex.nilapp (by repeat (first | with_reducible exact Ex.refl | (with_reducible apply Ex.take; · repeat (first | with_reducible exact Pk.here | with_reducible apply Pk.there)) | with_reducible apply Ex.drop)))⟩
          · omega
          · omega
        ·
          refine sA hS hR ((by first | exact Yld.indexH (sz := 1) (i) hS rfl rfl Try.underlying55 info23 (by assumption) rfl (by first | rfl | omega) (by omega) | exact Yld.indexL (sz := 1) (i) hS rfl rfl Try.underlying55 info23 (by repeat (first | with_reducible exact Pk.here | with_reducible apply Pk.there)) rfl (by first | rfl | omega) (by omega) | exact Yld.indexB (sz := 1) (i) hS rfl rfl Try.underlying55 info23 rfl (by first | rfl | omega) (by omega))) (by decide) ?_; clear hS; intro aa hS
          try have hi1 : i = 1 := by omega
          refine sA hS hR (Yld.load1 hS rfl Try.underlying23 rfl (Rd.rec0 (k := i) (xs := ([none, some ⟨bb130, 0, none⟩] : List (Option Addr))) (v := .pointer (some ⟨bb130, 0, none⟩)) (by repeat (first | with_reducible exact Pk.here | with_reducible apply Pk.there)) (by intro _; rfl) (by show i < 2; omega) (by simp only [hi1]; rfl))) (by decide) ?_; clear hS; intro aa hS
          refine sA hS hR (Yld.assign hS rfl) (by decide) ?_; clear hS; intro aa hS
          refine wpList_nil ?_
          refine hK764 _ _ ?_
          refine wp_seq_k ?_; intro K771 hK771
          refine wp_region_lit ?_
          refine sA hS hR (Yld.move hS rfl) (by decide) ?_; clear hS; intro aa hS
          refine sB (Bcall hS rfl Try.call11 (lOf_z (i := 0) (hR.pk (r := blk bb130 _ _) (by repeat (first | with_reducible exact Pk.here | with_reducible apply Pk.there)))) (by decide) ?_); clear hS; intro aa ww vv hS hp
          clear hR
          obtain ⟨rfl, hR⟩ := hp
          refine sA hS hR (Yld.move hS rfl) (by decide) ?_; clear hS; intro aa hS
          refine sA hS hR (Yld.extract hS rfl rfl) (by decide) ?_; clear hS; intro aa hS
          refine sA hS hR (Yld.extract hS rfl rfl) (by decide) ?_; clear hS; intro aa hS
          replace hS := hS.sayB (t := 141) false rfl (by rfl)
          refine sA hS hR (Yld.assign hS rfl) (by decide) ?_; clear hS; intro aa hS
          refine sA hS hR (Yld.assign hS rfl) (by decide) ?_; clear hS; intro aa hS
          refine wpList_nil ?_
          refine hK771 _ _ ?_
          refine wp_seq_k ?_; intro K772 hK772
          refine wp_region_lit ?_
          refine sA hS hR (Yld.move hS rfl) (by decide) ?_; clear hS; intro aa hS
          refine sB (Bcall hS rfl Try.call12 (lFirst_z (i := 0) (hR.pk (r := blk bb130 _ _) (by repeat (first | with_reducible exact Pk.here | with_reducible apply Pk.there)))) (by decide) ?_); clear hS; intro aa ww vv hS hp
          clear hR
          obtain ⟨rfl, hR⟩ := hp
          refine sA hS hR (Yld.move hS rfl) (by decide) ?_; clear hS; intro aa hS
          refine sA hS hR (Yld.extract hS rfl rfl) (by decide) ?_; clear hS; intro aa hS
          refine sA hS hR (Yld.extract hS rfl rfl) (by decide) ?_; clear hS; intro aa hS
          replace hS := hS.sayB (t := 146) false rfl (by rfl)
          refine sA hS hR (Yld.assign hS rfl) (by decide) ?_; clear hS; intro aa hS
          refine sA hS hR (Yld.assign hS rfl) (by decide) ?_; clear hS; intro aa hS
          refine wpList_nil ?_
          refine hK772 _ _ ?_
          refine wp_seq_k ?_; intro K773 hK773
          refine wp_region_lit ?_
          refine sA hS hR (Yld.move hS rfl) (by decide) ?_; clear hS; intro aa hS
          refine sB (Bcall hS rfl Try.call13 (lLast_z (i := 0) (hR.pk (r := blk bb130 _ _) (by repeat (first | with_reducible exact Pk.here | with_reducible apply Pk.there)))) (by decide) ?_); clear hS; intro aa ww vv hS hp
          clear hR
          obtain ⟨rfl, hR⟩ := hp
          refine sA hS hR (Yld.move hS rfl) (by decide) ?_; clear hS; intro aa hS
          refine sA hS hR (Yld.extract hS rfl rfl) (by decide) ?_; clear hS; intro aa hS
          refine sA hS hR (Yld.extract hS rfl rfl) (by decide) ?_; clear hS; intro aa hS
          replace hS := hS.sayB (t := 151) false rfl (by rfl)
          refine sA hS hR (Yld.assign hS rfl) (by decide) ?_; clear hS; intro aa hS
          refine sA hS hR (Yld.assign hS rfl) (by decide) ?_; clear hS; intro aa hS
          refine wpList_nil ?_
          refine hK773 _ _ ?_
          refine wp_seq_k ?_; intro K774 hK774
          refine wp_region_lit ?_
          refine sA hS hR (Yld.move hS rfl) (by decide) ?_; clear hS; intro aa hS
          refine sB (Bcall hS rfl Try.call27 (lNext_z (i := 0) (hR.pk (r := blk bb130 _ _) (by repeat (first | with_reducible exact Pk.here | with_reducible apply Pk.there)))) (by decide) ?_); clear hS; intro aa ww vv hS hp
          clear hR
          obtain ⟨rfl, hR⟩ := hp
          refine sA hS hR (Yld.move hS rfl) (by decide) ?_; clear hS; intro aa hS
          refine sA hS hR (Yld.extract hS rfl rfl) (by decide) ?_; clear hS; intro aa hS
          refine sA hS hR (Yld.extract hS rfl rfl) (by decide) ?_; clear hS; intro aa hS
          replace hS := hS.sayB (t := 156) false rfl (by rfl)
          refine sA hS hR (Yld.assign hS rfl) (by decide) ?_; clear hS; intro aa hS
          refine sA hS hR (Yld.assign hS rfl) (by decide) ?_; clear hS; intro aa hS
          refine wpList_nil ?_
          refine hK774 _ _ ?_
          refine wp_seq_k ?_; intro K775 hK775
          refine wp_region_lit ?_
          refine sA hS hR (Yld.move hS rfl) (by decide) ?_; clear hS; intro aa hS
          refine sB (Bcall hS rfl Try.call28 (lBefore_z (i := 0) (hR.pk (r := blk bb130 _ _) (by repeat (first | with_reducible exact Pk.here | with_reducible apply Pk.there)))) (by decide) ?_); clear hS; intro aa ww vv hS hp
          clear hR
          obtain ⟨rfl, hR⟩ := hp
          refine sA hS hR (Yld.move hS rfl) (by decide) ?_; clear hS; intro aa hS
          refine sA hS hR (Yld.extract hS rfl rfl) (by decide) ?_; clear hS; intro aa hS
          refine sA hS hR (Yld.extract hS rfl rfl) (by decide) ?_; clear hS; intro aa hS
          replace hS := hS.sayB (t := 161) false rfl (by rfl)
          refine sA hS hR (Yld.assign hS rfl) (by decide) ?_; clear hS; intro aa hS
          refine sA hS hR (Yld.assign hS rfl) (by decide) ?_; clear hS; intro aa hS
          refine wpList_nil ?_
          refine hK775 _ _ ?_
          refine wp_seq_k ?_; intro K776 hK776
          refine wp_region_lit ?_
          refine sA hS hR (Yld.move hS rfl) (by decide) ?_; clear hS; intro aa hS
          refine sA hS hR (Yld.move hS rfl) (by decide) ?_; clear hS; intro aa hS
          refine sAg hS hR rfl rfl (Yld.move hS rfl) (by decide) ?_; clear hS; intro aa hS
          refine sA hS hR (Yld.pickF hS rfl rfl) (by decide) ?_; clear hS; intro aa hS
          refine sA hS hR (Yld.move hS rfl) (by decide) ?_; clear hS; intro aa hS
          refine sAg hS hR rfl rfl (Yld.move hS rfl) (by decide) ?_; clear hS; intro aa hS
          refine sA hS hR (Yld.pickF hS rfl rfl) (by decide) ?_; clear hS; intro aa hS
          refine sA hS hR (Yld.move hS rfl) (by decide) ?_; clear hS; intro aa hS
          refine sAg hS hR rfl rfl (Yld.move hS rfl) (by decide) ?_; clear hS; intro aa hS
          refine sA hS hR (Yld.pickF hS rfl rfl) (by decide) ?_; clear hS; intro aa hS
          refine sA hS hR (Yld.move hS rfl) (by decide) ?_; clear hS; intro aa hS
          refine sAg hS hR rfl rfl (Yld.move hS rfl) (by decide) ?_; clear hS; intro aa hS
          refine sA hS hR (Yld.pickF hS rfl rfl) (by decide) ?_; clear hS; intro aa hS
          refine sA hS hR (Yld.move hS rfl) (by decide) ?_; clear hS; intro aa hS
          refine sAg hS hR rfl rfl (Yld.move hS rfl) (by decide) ?_; clear hS; intro aa hS
          refine sBg hS rfl rfl (Bcall hS rfl Try.call26 (lLen_z (i := 0) (hR.pk (r := blk bb130 _ _) (by repeat (first | with_reducible exact Pk.here | with_reducible apply Pk.there)))) (by decide) ?_); clear hS; intro aa ww vv hS hp
          clear hR
          obtain ⟨rfl, hR⟩ := hp
          refine sAg hS hR rfl rfl (Yld.move hS rfl) (by decide) ?_; clear hS; intro aa hS
          refine sBg hS rfl rfl (Bcall hS rfl Try.call10 (lAll_z (i := 0) (hR.pk (r := blk bb130 _ _) (by repeat (first | with_reducible exact Pk.here | with_reducible apply Pk.there)))) (by decide) ?_); clear hS; intro aa ww vv hS hp
          clear hR
          obtain ⟨rfl, hR⟩ := hp
          refine sAg hS hR rfl rfl (Yld.len hS rfl Try.underlying27) (by decide) ?_; clear hS; intro aa hS
          refine sAg hS hR rfl rfl ((by first | exact Yld.add64 hS rfl rfl (by omega) | exact Yld.add hS rfl rfl)) (by decide) ?_; clear hS; intro aa hS
          refine sAg hS hR rfl rfl (Yld.neq hS rfl rfl) (by decide) ?_; clear hS; intro aa hS
          replace hS := hS.sayB (t := 182) false rfl (by decide)
          refine sA hS hR (Yld.pickF hS rfl rfl) (by decide) ?_; clear hS; intro aa hS
          refine sA hS hR (Yld.move hS rfl) (by decide) ?_; clear hS; intro aa hS
          refine sAg hS hR rfl rfl (Yld.move hS rfl) (by decide) ?_; clear hS; intro aa hS
          refine sBg hS rfl rfl (Bcall hS rfl Try.call14 (lFront_z (i := 0) (j := 0) (hR.pk (r := blk bb130 _ _) (by repeat (first | with_reducible exact Pk.here | with_reducible apply Pk.there)))) (by decide) ?_); clear hS; intro aa ww vv hS hp
          clear hR
          obtain ⟨rfl, hR⟩ := hp
          refine sAg hS hR rfl rfl (Yld.neq hS rfl rfl) (by decide) ?_; clear hS; intro aa hS
          replace hS := hS.sayB (t := 187) false rfl (by decide)
          refine sA hS hR (Yld.pickF hS rfl rfl) (by decide) ?_; clear hS; intro aa hS
          refine sA hS hR (Yld.move hS rfl) (by decide) ?_; clear hS; intro aa hS
          refine sAg hS hR rfl rfl (Yld.move hS rfl) (by decide) ?_; clear hS; intro aa hS
          refine sBg hS rfl rfl (Bcall hS rfl Try.call17 (lBack_z (i := 0) (j := 0) (hR.pk (r := blk bb130 _ _) (by repeat (first | with_reducible exact Pk.here | with_reducible apply Pk.there)))) (by decide) ?_); clear hS; intro aa ww vv hS hp
          clear hR
          obtain ⟨rfl, hR⟩ := hp
          refine sAg hS hR rfl rfl (Yld.neq hS rfl rfl) (by decide) ?_; clear hS; intro aa hS
          replace hS := hS.sayB (t := 192) false rfl (by decide)
          refine sA hS hR (Yld.pickF hS rfl rfl) (by decide) ?_; clear hS; intro aa hS
          refine sA hS hR (Yld.move hS rfl) (by decide) ?_; clear hS; intro aa hS
          refine sAg hS hR rfl rfl (Yld.move hS rfl) (by decide) ?_; clear hS; intro aa hS
          refine sBg hS rfl rfl (Bcall hS rfl Try.call16 (lOut_z (i := 0) (hR.pk (r := blk bb130 _ _) (by repeat (first | with_reducible exact Pk.here | with_reducible apply Pk.there)))) (by decide) ?_); clear hS; intro aa ww vv hS hp
          clear hR
          obtain ⟨rfl, hR⟩ := hp
          refine sAg hS hR rfl rfl (Yld.neq hS rfl rfl) (by decide) ?_; clear hS; intro aa hS
          replace hS := hS.sayB (t := 197) false rfl (by decide)
          refine sA hS hR (Yld.pickF hS rfl rfl) (by decide) ?_; clear hS; intro aa hS
          refine sA hS hR (Yld.move hS rfl) (by decide) ?_; clear hS; intro aa hS
          refine sAg hS hR rfl rfl (Yld.move hS rfl) (by decide) ?_; clear hS; intro aa hS
          refine sBg hS rfl rfl (Bcall hS rfl Try.call29 (lJoin_z (i := 0) (j := 1) (hR.pk (r := blk bb130 _ _) (by repeat (first | with_reducible exact Pk.here | with_reducible apply Pk.there)))) (by decide) ?_); clear hS; intro aa ww vv hS hp
          clear hR
          obtain ⟨rfl, hR⟩ := hp
          refine sAg hS hR rfl rfl (Yld.neq hS rfl rfl) (by decide) ?_; clear hS; intro aa hS
          replace hS := hS.sayB (t := 202) false rfl (by decide)
          refine sA hS hR (Yld.pickF hS rfl rfl) (by decide) ?_; clear hS; intro aa hS
          refine wpList_nil ?_
          refine hK776 _ _ ?_
          refine condF hS rfl ?_
          refine wp_skip ?_
          refine hK763 _ _ ?_
          refine wp_region_lit ?_
          refine sA hS hR ((by first | exact Yld.add64 hS rfl rfl (by omega) | exact Yld.add hS rfl rfl)) (by decide) ?_; clear hS; intro aa hS
          refine sA hS hR (Yld.move hS rfl) (by decide) ?_; clear hS; intro aa hS
          refine wpList_nil ?_
          
          refine ⟨i + 1, ?_, ?_, hS.le (Le.cons rfl (Le.nilapp (Le.cons rfl (Le.cons rfl (Le.nil _))))), hR.sub (Ex.nilapp (by repeat (first | with_reducible exact Ex.refl | (with_reducible apply Ex.take; · repeat (first | with_reducible exact Pk.here | with_reducible apply Pk.there)) | with_reducible apply Ex.drop)))⟩
          · omega
          · omega
      · intro hg hS
        refine condF hS rfl ?_
        refine wp_exit ?_
        refine hK758 _ _ ?_
        refine wp_seq_k ?_; intro K777 hK777
        refine wp_region_lit ?_
        refine sB (Bcall hS rfl Try.call15 (awake_ok hR) (by decide) ?_); clear hS; intro aa ww vv hS hp
        clear hR
        obtain ⟨rfl, hR⟩ := hp
        refine sA hS hR (Yld.assign hS rfl) (by decide) ?_; clear hS; intro aa hS
        refine wpList_nil ?_
        refine hK777 _ _ ?_
        refine wp_ret ?_
        repeat (first | with_reducible refine thenR ?_ | with_reducible refine blockR ?_ | with_reducible refine scopeR ?_)
        refine ret1 (fn := Try.f5) (e := .ret) (.inl rfl) Try.results5 hS hR ⟨_, (.tmp rfl), ?_⟩
        exact ⟨rfl, (hR.sub (by repeat (first | with_reducible exact Ex.refl | (with_reducible apply Ex.take; · repeat (first | with_reducible exact Pk.here | with_reducible apply Pk.there)) | with_reducible apply Ex.drop)))⟩
end Go.Proofs.Ytcokognhodjfgaa.Sx
