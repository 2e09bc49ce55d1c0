/-
  
-/
import Derived.Test.YtioacnbpnnabaaaBkD
import Derived.Test.YtioacnbpnnabaaaSlice
namespace Go.Proofs.Ytioacnbpnnabaaa.Sx
open Go
set_option linter.unusedVariables false
set_option linter.unusedSimpArgs false

theorem info36 : Try.prog.info? 36 = some Try.t36 := by kernel_rfl
theorem bls30_6_0_1_2_3_4_5 (x0_0 : Int) (x0_1 : Int) (x0_2 : Int) (x1_0 : Int) (x1_1 : Int) (x1_2 : Int) (x2_0 : Int) (x2_1 : Int) (x2_2 : Int) (x3_0 : Int) (x3_1 : Int) (x3_2 : Int) (x4_0 : Int) (x4_1 : Int) (x4_2 : Int) (x5_0 : Int) (x5_1 : Int) (x5_2 : Int) (w : World) : (Instr.buildSlice 30 6 [(0, .agg [.int .i64 x0_0, .int .i64 x0_1, .int .i64 x0_2].toArray), (1, .agg [.int .i64 x1_0, .int .i64 x1_1, .int .i64 x1_2].toArray), (2, .agg [.int .i64 x2_0, .int .i64 x2_1, .int .i64 x2_2].toArray), (3, .agg [.int .i64 x3_0, .int .i64 x3_1, .int .i64 x3_2].toArray), (4, .agg [.int .i64 x4_0, .int .i64 x4_1, .int .i64 x4_2].toArray), (5, .agg [.int .i64 x5_0, .int .i64 x5_1, .int .i64 x5_2].toArray)].toArray).run Try.prog w = .ok (.slice (some ⟨w.heap.size, 0, none⟩) 6 6) (w.alloc (.cells ([.int .i64 x0_0, .int .i64 x0_1, .int .i64 x0_2, .int .i64 x1_0, .int .i64 x1_1, .int .i64 x1_2, .int .i64 x2_0, .int .i64 x2_1, .int .i64 x2_2, .int .i64 x3_0, .int .i64 x3_1, .int .i64 x3_2, .int .i64 x4_0, .int .i64 x4_1, .int .i64 x4_2, .int .i64 x5_0, .int .i64 x5_1, .int .i64 x5_2] : List Value).toArray 23)) := by kernel_rfl
theorem bls31_4_0_1_2_3 (x0_0 : Int) (x0_1 : Int) (x1_0 : Int) (x1_1 : Int) (x2_0 : Int) (x2_1 : Int) (x3_0 : Int) (x3_1 : Int) (w : World) : (Instr.buildSlice 31 4 [(0, .agg [.int .i64 x0_0, .int .i64 x0_1].toArray), (1, .agg [.int .i64 x1_0, .int .i64 x1_1].toArray), (2, .agg [.int .i64 x2_0, .int .i64 x2_1].toArray), (3, .agg [.int .i64 x3_0, .int .i64 x3_1].toArray)].toArray).run Try.prog w = .ok (.slice (some ⟨w.heap.size, 0, none⟩) 4 4) (w.alloc (.cells ([.int .i64 x0_0, .int .i64 x0_1, .int .i64 x1_0, .int .i64 x1_1, .int .i64 x2_0, .int .i64 x2_1, .int .i64 x3_0, .int .i64 x3_1] : List Value).toArray 25)) := by kernel_rfl
theorem bls57_6_0_1_2_3_4_5 (x0 : Int) (x1 : Int) (x2 : Int) (x3 : Int) (x4 : Int) (x5 : Int) (w : World) : (Instr.buildSlice 57 6 [(0, .int .i64 x0), (1, .int .i64 x1), (2, .int .i64 x2), (3, .int .i64 x3), (4, .int .i64 x4), (5, .int .i64 x5)].toArray).run Try.prog w = .ok (.slice (some ⟨w.heap.size, 0, none⟩) 6 6) (w.alloc (.cells ([.int .i64 x0, .int .i64 x1, .int .i64 x2, .int .i64 x3, .int .i64 x4, .int .i64 x5] : List Value).toArray 36)) := by kernel_rfl

def e3 (r : Int × Int × Int) : List Value := [.int .i64 r.1, .int .i64 r.2.1, .int .i64 r.2.2]
def e2 (r : Int × Int) : List Value := [.int .i64 r.1, .int .i64 r.2]
def e1 (r : Int) : List Value := [.int .i64 r]
theorem e3_len (r : Int × Int × Int) : (e3 r).length = 3 := rfl
theorem e2_len (r : Int × Int) : (e2 r).length = 2 := rfl
theorem e1_len (r : Int) : (e1 r).length = 1 := rfl
set_option maxHeartbeats 8000000 in
set_option maxRecDepth 20000 in
theorem BucketWrong_ok {n0 n1 n2 x y z : Int} {l : List HP} {w : World} (hR : Sep l w) : CallR Try.prog 10 [.agg [.int .i64 n0, .int .i64 n1, .int .i64 n2].toArray, .int .i64 x, .int .i64 y, .int .i64 z] w (fun v w' => v = .bool true ∧ Sep l w') := by
  refine enter Try.func10 rfl Try.ntmps10 (Nat.le_of_ble_eq_true rfl) ?_; intro aa hS
  refine wp_seq_k ?_; intro K226 hK226
  refine wp_region_lit ?_
  refine sB (Bbox hS hR rfl (by rfl) (by decide) ?_); clear hS hR; intro aa ww bb4 hS hR
  refine sA hS hR (Yld.assign hS rfl) (by decide) ?_; clear hS; intro aa hS
  refine wpList_nil ?_
  refine hK226 _ _ ?_
  refine wp_seq_k ?_; intro K227 hK227
  refine wp_seq_k ?_; intro K228 hK228
  refine wp_region_lit ?_
  refine sB (Bcall hS rfl Try.call12 (awake_ok hR) (by decide) ?_); clear hS; intro aa ww vv hS hp
  clear hR
  obtain ⟨rfl, hR⟩ := hp
  refine sA hS hR (Yld.not hS rfl) (by decide) ?_; clear hS; intro aa hS
  refine wpList_nil ?_
  refine hK228 _ _ ?_
  refine condF hS rfl ?_
  refine wp_skip ?_
  refine hK227 _ _ ?_
  refine wp_seq_k ?_; intro K229 hK229
  refine wp_region_lit ?_
  refine sA hS hR (Yld.loadAgg hS rfl Try.underlying32 rfl info32 (Rds.cons (Rd.blk (by repeat (first | with_reducible exact Pk.here | with_reducible apply Pk.there)) (by rfl)) (Rds.cons (Rd.blk (by repeat (first | with_reducible exact Pk.here | with_reducible apply Pk.there)) (by rfl)) (Rds.cons (Rd.blk (by repeat (first | with_reducible exact Pk.here | with_reducible apply Pk.there)) (by rfl)) (Rds.nil)))) (by rfl)) (by decide) ?_; clear hS; intro aa hS
  refine sB (Bcall hS rfl Try.call14 (made_ok hR) (by decide) ?_); clear hS; intro aa ww vv hS hp
  clear hR
  obtain ⟨⟨t, p, b, hM, rfl⟩, hR⟩ := hp
  have hmp := hM.most
  have hMd : 1 ≤ t ∧ t ≤ 100 ∧ 1 ≤ p ∧ p ≤ 1000 ∧ 1 ≤ b ∧ b ≤ 100 := hM
  refine sB (Balloc hS hR info23 (by rfl) (by rfl) (by decide) ?_); clear hS hR; intro aa ww bb9 hS hR
  refine sB (Bstore hS hR rfl rfl (by rfl) info23 (by rfl) (by repeat (first | with_reducible exact Pk.here | with_reducible apply Pk.there)) (by rfl) (Nat.le_of_ble_eq_true rfl) ?_); clear hR; intro ww hR
  refine wpList_nil ?_
  refine hK229 _ _ ?_
  refine wp_seq_k ?_; intro K230 hK230
  refine wp_region_lit ?_
  refine sA hS hR (Yld.loadAgg hS rfl Try.underlying23 rfl info23 (Rds.cons (Rd.blk (by repeat (first | with_reducible exact Pk.here | with_reducible apply Pk.there)) (by rfl)) (Rds.cons (Rd.blk (by repeat (first | with_reducible exact Pk.here | with_reducible apply Pk.there)) (by rfl)) (Rds.cons (Rd.blk (by repeat (first | with_reducible exact Pk.here | with_reducible apply Pk.there)) (by rfl)) (Rds.nil)))) (by rfl)) (by decide) ?_; clear hS; intro aa hS
  refine sA hS hR (Yld.move hS rfl) (by decide) ?_; clear hS; intro aa hS
  refine sA hS hR (Yld.move hS rfl) (by decide) ?_; clear hS; intro aa hS
  refine sB (Bcall hS rfl Try.call20 (level_ok hR hM) (by decide) ?_); clear hS; intro aa ww vv hS hp
  clear hR
  obtain ⟨⟨lv, at_, hL, hA, rfl⟩, hR⟩ := hp
  refine sB (Balloc hS hR info25 (by rfl) (by rfl) (by decide) ?_); clear hS hR; intro aa ww bb10 hS hR
  refine sB (Bstore hS hR rfl rfl (by rfl) info25 (by rfl) (by repeat (first | with_reducible exact Pk.here | with_reducible apply Pk.there)) (by rfl) (Nat.le_of_ble_eq_true rfl) ?_); clear hR; intro ww hR
  refine wpList_nil ?_
  refine hK230 _ _ ?_
  refine wp_seq_k ?_; intro K231 hK231
  refine wp_seq_k ?_; intro K232 hK232
  refine wp_region_lit ?_
  refine sA hS hR (Yld.move hS rfl) (by decide) ?_; clear hS; intro aa hS
  refine sA hS hR (Yld.min hS rfl rfl) (by decide) ?_; clear hS; intro aa hS
  refine sA hS hR (Yld.fieldAddr hS rfl 1 Try.underlying23 rfl rfl info3 (by decide)) (by decide) ?_; clear hS; intro aa hS
  refine sA hS hR (Yld.load1 hS rfl Try.underlying3 rfl (Rd.blk (by repeat (first | with_reducible exact Pk.here | with_reducible apply Pk.there)) (by rfl))) (by decide) ?_; clear hS; intro aa hS
  refine sA hS hR (Yld.fieldAddr hS rfl 2 Try.underlying23 rfl rfl info3 (by decide)) (by decide) ?_; clear hS; intro aa hS
  refine sA hS hR (Yld.load1 hS rfl Try.underlying3 rfl (Rd.blk (by repeat (first | with_reducible exact Pk.here | with_reducible apply Pk.there)) (by rfl))) (by decide) ?_; clear hS; intro aa hS
  refine sA hS hR (Yld.build hS rfl (bld23_0_1_2 _ _ _)) (by decide) ?_; clear hS; intro aa hS
  refine sA hS hR (Yld.fieldAddr hS rfl 0 Try.underlying23 rfl rfl info3 (by decide)) (by decide) ?_; clear hS; intro aa hS
  refine sA hS hR (Yld.load1 hS rfl Try.underlying3 rfl (Rd.blk (by repeat (first | with_reducible exact Pk.here | with_reducible apply Pk.there)) (by rfl))) (by decide) ?_; clear hS; intro aa hS
  refine sA hS hR (Yld.move hS rfl) (by decide) ?_; clear hS; intro aa hS
  refine sA hS hR (Yld.min hS rfl rfl) (by decide) ?_; clear hS; intro aa hS
  refine sA hS hR (Yld.fieldAddr hS rfl 2 Try.underlying23 rfl rfl info3 (by decide)) (by decide) ?_; clear hS; intro aa hS
  refine sA hS hR (Yld.load1 hS rfl Try.underlying3 rfl (Rd.blk (by repeat (first | with_reducible exact Pk.here | with_reducible apply Pk.there)) (by rfl))) (by decide) ?_; clear hS; intro aa hS
  refine sA hS hR (Yld.build hS rfl (bld23_0_1_2 _ _ _)) (by decide) ?_; clear hS; intro aa hS
  refine sA hS hR (Yld.fieldAddr hS rfl 0 Try.underlying23 rfl rfl info3 (by decide)) (by decide) ?_; clear hS; intro aa hS
  refine sA hS hR (Yld.load1 hS rfl Try.underlying3 rfl (Rd.blk (by repeat (first | with_reducible exact Pk.here | with_reducible apply Pk.there)) (by rfl))) (by decide) ?_; clear hS; intro aa hS
  refine sA hS hR (Yld.fieldAddr hS rfl 1 Try.underlying23 rfl rfl info3 (by decide)) (by decide) ?_; clear hS; intro aa hS
  refine sA hS hR (Yld.load1 hS rfl Try.underlying3 rfl (Rd.blk (by repeat (first | with_reducible exact Pk.here | with_reducible apply Pk.there)) (by rfl))) (by decide) ?_; clear hS; intro aa hS
  refine sA hS hR (Yld.move hS rfl) (by decide) ?_; clear hS; intro aa hS
  refine sA hS hR (Yld.min hS rfl rfl) (by decide) ?_; clear hS; intro aa hS
  refine sA hS hR (Yld.build hS rfl (bld23_0_1_2 _ _ _)) (by decide) ?_; clear hS; intro aa hS
  refine sA hS hR (Yld.move hS rfl) (by decide) ?_; clear hS; intro aa hS
  refine sA hS hR (Yld.max hS rfl rfl) (by decide) ?_; clear hS; intro aa hS
  refine sA hS hR (Yld.fieldAddr hS rfl 1 Try.underlying23 rfl rfl info3 (by decide)) (by decide) ?_; clear hS; intro aa hS
  refine sA hS hR (Yld.load1 hS rfl Try.underlying3 rfl (Rd.blk (by repeat (first | with_reducible exact Pk.here | with_reducible apply Pk.there)) (by rfl))) (by decide) ?_; clear hS; intro aa hS
  refine sA hS hR (Yld.fieldAddr hS rfl 2 Try.underlying23 rfl rfl info3 (by decide)) (by decide) ?_; clear hS; intro aa hS
  refine sA hS hR (Yld.load1 hS rfl Try.underlying3 rfl (Rd.blk (by repeat (first | with_reducible exact Pk.here | with_reducible apply Pk.there)) (by rfl))) (by decide) ?_; clear hS; intro aa hS
  refine sA hS hR (Yld.build hS rfl (bld23_0_1_2 _ _ _)) (by decide) ?_; clear hS; intro aa hS
  refine sA hS hR (Yld.fieldAddr hS rfl 0 Try.underlying23 rfl rfl info3 (by decide)) (by decide) ?_; clear hS; intro aa hS
  refine sA hS hR (Yld.load1 hS rfl Try.underlying3 rfl (Rd.blk (by repeat (first | with_reducible exact Pk.here | with_reducible apply Pk.there)) (by rfl))) (by decide) ?_; clear hS; intro aa hS
  refine sA hS hR (Yld.move hS rfl) (by decide) ?_; clear hS; intro aa hS
  refine sA hS hR (Yld.max hS rfl rfl) (by decide) ?_; clear hS; intro aa hS
  refine sA hS hR (Yld.fieldAddr hS rfl 2 Try.underlying23 rfl rfl info3 (by decide)) (by decide) ?_; clear hS; intro aa hS
  refine sA hS hR (Yld.load1 hS rfl Try.underlying3 rfl (Rd.blk (by repeat (first | with_reducible exact Pk.here | with_reducible apply Pk.there)) (by rfl))) (by decide) ?_; clear hS; intro aa hS
  refine sA hS hR (Yld.build hS rfl (bld23_0_1_2 _ _ _)) (by decide) ?_; clear hS; intro aa hS
  refine sA hS hR (Yld.fieldAddr hS rfl 0 Try.underlying23 rfl rfl info3 (by decide)) (by decide) ?_; clear hS; intro aa hS
  refine sA hS hR (Yld.load1 hS rfl Try.underlying3 rfl (Rd.blk (by repeat (first | with_reducible exact Pk.here | with_reducible apply Pk.there)) (by rfl))) (by decide) ?_; clear hS; intro aa hS
  refine sA hS hR (Yld.fieldAddr hS rfl 1 Try.underlying23 rfl rfl info3 (by decide)) (by decide) ?_; clear hS; intro aa hS
  refine sA hS hR (Yld.load1 hS rfl Try.underlying3 rfl (Rd.blk (by repeat (first | with_reducible exact Pk.here | with_reducible apply Pk.there)) (by rfl))) (by decide) ?_; clear hS; intro aa hS
  refine sA hS hR (Yld.move hS rfl) (by decide) ?_; clear hS; intro aa hS
  refine sA hS hR (Yld.max hS rfl rfl) (by decide) ?_; clear hS; intro aa hS
  refine sA hS hR (Yld.build hS rfl (bld23_0_1_2 _ _ _)) (by decide) ?_; clear hS; intro aa hS
  refine sB (BbuildSlice hS hR rfl (bls30_6_0_1_2_3_4_5 _ _ _ _ _ _ _ _ _ _ _ _ _ _ _ _ _ _) (by decide) ?_); clear hS hR; intro aa ww bb87 hS hR
  obtain ⟨rs87, ⟨hl87, hC87⟩, hR⟩ := Sep.absL (enc := e3) (C := fun rs => rs.length = 6 ∧ ∀ r ∈ rs, ¬ RR r.1 r.2.1 r.2.2) [(_, _, _), (_, _, _), (_, _, _), (_, _, _), (_, _, _), (_, _, _)] hR rfl ⟨rfl, by intro r hr; simp only [List.mem_cons, List.not_mem_nil, or_false] at hr; rcases hr with rfl | rfl | rfl | rfl | rfl | rfl <;> (unfold RR; dsimp only; omega)⟩
  refine sA hS hR (Yld.len hS rfl Try.underlying30) (by decide) ?_; clear hS; intro aa hS
  refine sA hS hR (Yld.move hS rfl) (by decide) ?_; clear hS; intro aa hS
  refine wpList_nil ?_
  refine hK232 _ _ ?_
  refine wp_block ?_
  refine loopI (X := Nat) (without [8, 11, 12, 13, 14, 15, 16, 89, 90, 91, 92, 93, 94, 95, 96, 97, 98, 99, 100, 101, 102, 103, 104, 105, 106, 107, 108, 109, 110, 111, 112, 113, 114, 115, 116, 117, 118, 119, 120, 121, 122, 123] _) (fun x => [(89, .int .i64 (x : Int))]) (fun x => []) _ (fun x => x ≤ 6) (fun x => 6 - x) 0 (by omega) (hS.le (by refine (Le.cons rfl (Le.nilapp (Le.without _ _))))) hR ?_
  clear hS hR; rintro k89 aa ww hI hS hR; dsimp only [List.cons_append, List.nil_append] at hI hS hR
  refine wp_seq_k ?_; intro K234 hK234
  refine wp_region_lit ?_
  refine sA hS hR (Yld.lss hS rfl rfl) (by decide) ?_; clear hS; intro aa hS
  refine wpList_nil ?_
  refine hK234 _ _ ?_
  refine wp_seq_k ?_; intro K235 hK235
  refine hS.splitB (t := 90) rfl ?_ ?_ <;> clear hS
  · intro hg hS
    have hbr := hC87 _ (List.getElem_mem (show k89 < rs87.length by omega))
    refine condT hS rfl ?_
    refine wp_skip ?_
    refine hK235 _ _ ?_
    refine wp_seq_k ?_; intro K236 hK236
    refine wp_block ?_
    refine wp_seq_k ?_; intro K237 hK237
    refine wp_region_lit ?_
    refine sA hS hR (Yld.move hS rfl) (by decide) ?_; clear hS; intro aa hS
    refine sA hS hR (Yld.indexSlice hS rfl rfl Try.underlying30 info23 (by omega) (by omega)) (by decide) ?_; clear hS; intro aa hS
    refine sA hS hR (Yld.loadAgg hS rfl Try.underlying23 rfl info23 ((Rds.flat (by repeat (first | with_reducible exact Pk.here | with_reducible apply Pk.there)) e3_len (show k89 < rs87.length by omega)).at (by show _ = k89 * 3; have h : (Try.t23).size = 3 := rfl; rw [h]; omega)) (by rfl)) (by decide) ?_; clear hS; intro aa hS
    refine sB (Balloc hS hR info23 (by rfl) (by rfl) (by decide) ?_); clear hS hR; intro aa ww bb12 hS hR
    refine sA hS hR (Yld.assign hS rfl) (by decide) ?_; clear hS; intro aa hS
    refine sB (Bstore hS hR rfl rfl (by rfl) info23 (by rfl) (by repeat (first | with_reducible exact Pk.here | with_reducible apply Pk.there)) (by rfl) (Nat.le_of_ble_eq_true rfl) ?_); clear hR; intro ww hR
    refine wpList_nil ?_
    refine hK237 _ _ ?_
    refine wp_seq_k ?_; intro K238 hK238
    refine wp_region_lit ?_
    refine sA hS hR (Yld.loadAgg hS rfl Try.underlying23 rfl info23 (Rds.cons (Rd.blk (by repeat (first | with_reducible exact Pk.here | with_reducible apply Pk.there)) (by rfl)) (Rds.cons (Rd.blk (by repeat (first | with_reducible exact Pk.here | with_reducible apply Pk.there)) (by rfl)) (Rds.cons (Rd.blk (by repeat (first | with_reducible exact Pk.here | with_reducible apply Pk.there)) (by rfl)) (Rds.nil)))) (by rfl)) (by decide) ?_; clear hS; intro aa hS
    refine sA hS hR (Yld.move hS rfl) (by decide) ?_; clear hS; intro aa hS
    refine sB (Bcall hS rfl Try.call16 (Full_ok hR) (by decide) ?_); clear hS; intro aa ww vv hS hp
    clear hR
    obtain ⟨rfl, hR⟩ := hp
    rw [show fullF _ _ _ _ = (0, 0, 2) from if_neg (fun h => hbr h.1)] at hS; dsimp only at hS
    refine sA hS hR (Yld.move hS rfl) (by decide) ?_; clear hS; intro aa hS
    refine sA hS hR (Yld.extract hS rfl rfl) (by decide) ?_; clear hS; intro aa hS
    refine sA hS hR (Yld.extract hS rfl rfl) (by decide) ?_; clear hS; intro aa hS
    refine sB (Balloc hS hR info25 (by rfl) (by rfl) (by decide) ?_); clear hS hR; intro aa ww bb13 hS hR
    refine sB (Bstore hS hR rfl rfl (by rfl) info25 (by rfl) (by repeat (first | with_reducible exact Pk.here | with_reducible apply Pk.there)) (by rfl) (Nat.le_of_ble_eq_true rfl) ?_); clear hR; intro ww hR
    refine sA hS hR (Yld.assign hS rfl) (by decide) ?_; clear hS; intro aa hS
    refine wpList_nil ?_
    refine hK238 _ _ ?_
    refine wp_seq_k ?_; intro K239 hK239
    refine wp_region_lit ?_
    refine sA hS hR (Yld.loadAgg hS rfl Try.underlying23 rfl info23 (Rds.cons (Rd.blk (by repeat (first | with_reducible exact Pk.here | with_reducible apply Pk.there)) (by rfl)) (Rds.cons (Rd.blk (by repeat (first | with_reducible exact Pk.here | with_reducible apply Pk.there)) (by rfl)) (Rds.cons (Rd.blk (by repeat (first | with_reducible exact Pk.here | with_reducible apply Pk.there)) (by rfl)) (Rds.nil)))) (by rfl)) (by decide) ?_; clear hS; intro aa hS
    refine sA hS hR (Yld.loadAgg hS rfl Try.underlying25 rfl info25 (Rds.cons (Rd.blk (by repeat (first | with_reducible exact Pk.here | with_reducible apply Pk.there)) (by rfl)) (Rds.cons (Rd.blk (by repeat (first | with_reducible exact Pk.here | with_reducible apply Pk.there)) (by rfl)) (Rds.nil))) (by rfl)) (by decide) ?_; clear hS; intro aa hS
    refine sA hS hR (Yld.fieldAddr hS rfl 1 Try.underlying25 rfl rfl info3 (by decide)) (by decide) ?_; clear hS; intro aa hS
    refine sA hS hR (Yld.load1 hS rfl Try.underlying3 rfl (Rd.blk (by repeat (first | with_reducible exact Pk.here | with_reducible apply Pk.there)) (by rfl))) (by decide) ?_; clear hS; intro aa hS
    refine sB (Bcall hS rfl Try.call17 (Take_ok hR) (by decide) ?_); clear hS; intro aa ww vv hS hp
    clear hR
    obtain ⟨rfl, hR⟩ := hp
    rw [takeF_no (.inl (fun h => hbr h.1.1))] at hS; dsimp only at hS
    refine sA hS hR (Yld.move hS rfl) (by decide) ?_; clear hS; intro aa hS
    refine sA hS hR (Yld.extract hS rfl rfl) (by decide) ?_; clear hS; intro aa hS
    refine sA hS hR (Yld.extract hS rfl rfl) (by decide) ?_; clear hS; intro aa hS
    refine sB (Balloc hS hR info25 (by rfl) (by rfl) (by decide) ?_); clear hS hR; intro aa ww bb15 hS hR
    refine sB (Bstore hS hR rfl rfl (by rfl) info25 (by rfl) (by repeat (first | with_reducible exact Pk.here | with_reducible apply Pk.there)) (by rfl) (Nat.le_of_ble_eq_true rfl) ?_); clear hR; intro ww hR
    refine sA hS hR (Yld.assign hS rfl) (by decide) ?_; clear hS; intro aa hS
    refine wpList_nil ?_
    refine hK239 _ _ ?_
    refine wp_seq_k ?_; intro K240 hK240
    refine wp_region_lit ?_
    refine sA hS hR (Yld.loadAgg hS rfl Try.underlying23 rfl info23 (Rds.cons (Rd.blk (by repeat (first | with_reducible exact Pk.here | with_reducible apply Pk.there)) (by rfl)) (Rds.cons (Rd.blk (by repeat (first | with_reducible exact Pk.here | with_reducible apply Pk.there)) (by rfl)) (Rds.cons (Rd.blk (by repeat (first | with_reducible exact Pk.here | with_reducible apply Pk.there)) (by rfl)) (Rds.nil)))) (by rfl)) (by decide) ?_; clear hS; intro aa hS
    refine sB (Bcall hS rfl Try.call24 (RightRate_ok hR) (by decide) ?_); clear hS; intro aa ww vv hS hp
    clear hR
    obtain ⟨rfl, hR⟩ := hp
    replace hS := hS.sayB (t := 109) false rfl (by exact decide_eq_false hbr)
    refine sA hS hR (Yld.move hS rfl) (by decide) ?_; clear hS; intro aa hS
    refine sAg hS hR rfl rfl (Yld.loadAgg hS rfl Try.underlying23 rfl info23 (Rds.cons (Rd.blk (by repeat (first | with_reducible exact Pk.here | with_reducible apply Pk.there)) (by rfl)) (Rds.cons (Rd.blk (by repeat (first | with_reducible exact Pk.here | with_reducible apply Pk.there)) (by rfl)) (Rds.cons (Rd.blk (by repeat (first | with_reducible exact Pk.here | with_reducible apply Pk.there)) (by rfl)) (Rds.nil)))) (by rfl)) (by decide) ?_; clear hS; intro aa hS
    refine sAg hS hR rfl rfl (Yld.loadAgg hS rfl Try.underlying25 rfl info25 (Rds.cons (Rd.blk (by repeat (first | with_reducible exact Pk.here | with_reducible apply Pk.there)) (by rfl)) (Rds.cons (Rd.blk (by repeat (first | with_reducible exact Pk.here | with_reducible apply Pk.there)) (by rfl)) (Rds.nil))) (by rfl)) (by decide) ?_; clear hS; intro aa hS
    refine sBg hS rfl rfl (Bcall hS rfl Try.call19 (Right_ok hR) (by decide) ?_); clear hS; intro aa ww vv hS hp
    clear hR
    obtain ⟨rfl, hR⟩ := hp
    replace hS := hS.sayB (t := 113) false rfl (by exact decide_eq_false (fun h => hbr h.1))
    refine sA hS hR (Yld.pickF hS rfl rfl) (by decide) ?_; clear hS; intro aa hS
    refine sA hS hR (Yld.move hS rfl) (by decide) ?_; clear hS; intro aa hS
    refine sAg hS hR rfl rfl (Yld.move hS rfl) (by decide) ?_; clear hS; intro aa hS
    refine sAg hS hR rfl rfl (Yld.neq hS rfl rfl) (by decide) ?_; clear hS; intro aa hS
    replace hS := hS.sayB (t := 117) false rfl (by simp)
    refine sA hS hR (Yld.pickF hS rfl rfl) (by decide) ?_; clear hS; intro aa hS
    refine sA hS hR (Yld.move hS rfl) (by decide) ?_; clear hS; intro aa hS
    refine sAg hS hR rfl rfl (Yld.move hS rfl) (by decide) ?_; clear hS; intro aa hS
    refine sAg hS hR rfl rfl (Yld.neq hS rfl rfl) (by decide) ?_; clear hS; intro aa hS
    replace hS := hS.sayB (t := 121) false rfl (by simp)
    refine sA hS hR (Yld.pickF hS rfl rfl) (by decide) ?_; clear hS; intro aa hS
    refine wpList_nil ?_
    refine hK240 _ _ ?_
    refine condF hS rfl ?_
    refine wp_skip ?_
    refine hK236 _ _ ?_
    refine wp_region_lit ?_
    refine sA hS hR ((by first | exact Yld.add64 hS rfl rfl (by omega) | exact Yld.add hS rfl rfl)) (by decide) ?_; clear hS; intro aa hS
    refine sA hS hR (Yld.move hS rfl) (by decide) ?_; clear hS; intro aa hS
    refine wpList_nil ?_
    
    refine ⟨k89 + 1, ?_, ?_, hS.le (Le.cons rfl (Le.nilapp (by repeat (first | with_reducible exact Le.refl _ | refine Le.skip (lk_without rfl) ?_)))), hR.sub (Ex.nilapp (by repeat (first | with_reducible exact Ex.refl | with_reducible apply Ex.drop)))⟩
    · omega
    · omega
  · intro hg hS
    refine condF hS rfl ?_
    refine wp_exit ?_
    refine hK231 _ _ ?_
    refine wp_seq_k ?_; intro K241 hK241
    refine wp_seq_k ?_; intro K242 hK242
    refine wp_region_lit ?_
    refine sA hS hR (Yld.move hS rfl) (by decide) ?_; clear hS; intro aa hS
    refine sA hS hR (Yld.min hS rfl rfl) (by decide) ?_; clear hS; intro aa hS
    refine sA hS hR (Yld.fieldAddr hS rfl 1 Try.underlying25 rfl rfl info3 (by decide)) (by decide) ?_; clear hS; intro aa hS
    refine sA hS hR (Yld.load1 hS rfl Try.underlying3 rfl (Rd.blk (by repeat (first | with_reducible exact Pk.here | with_reducible apply Pk.there)) (by rfl))) (by decide) ?_; clear hS; intro aa hS
    refine sA hS hR (Yld.build hS rfl (bld25_0_1 _ _)) (by decide) ?_; clear hS; intro aa hS
    refine sA hS hR (Yld.move hS rfl) (by decide) ?_; clear hS; intro aa hS
    refine sA hS hR (Yld.fieldAddr hS rfl 2 Try.underlying23 rfl rfl info3 (by decide)) (by decide) ?_; clear hS; intro aa hS
    refine sA hS hR (Yld.load1 hS rfl Try.underlying3 rfl (Rd.blk (by repeat (first | with_reducible exact Pk.here | with_reducible apply Pk.there)) (by rfl))) (by decide) ?_; clear hS; intro aa hS
    refine sA hS hR (Yld.fieldAddr hS rfl 1 Try.underlying23 rfl rfl info3 (by decide)) (by decide) ?_; clear hS; intro aa hS
    refine sA hS hR (Yld.load1 hS rfl Try.underlying3 rfl (Rd.blk (by repeat (first | with_reducible exact Pk.here | with_reducible apply Pk.there)) (by rfl))) (by decide) ?_; clear hS; intro aa hS
    refine sA hS hR ((by first | exact Yld.mul64 hS rfl rfl (by omega) | exact Yld.mul hS rfl rfl)) (by decide) ?_; clear hS; intro aa hS
    refine sA hS hR ((by first | exact Yld.add64 hS rfl rfl (by omega) | exact Yld.add hS rfl rfl)) (by decide) ?_; clear hS; intro aa hS
    refine sA hS hR (Yld.max hS rfl rfl) (by decide) ?_; clear hS; intro aa hS
    refine sA hS hR (Yld.fieldAddr hS rfl 1 Try.underlying25 rfl rfl info3 (by decide)) (by decide) ?_; clear hS; intro aa hS
    refine sA hS hR (Yld.load1 hS rfl Try.underlying3 rfl (Rd.blk (by repeat (first | with_reducible exact Pk.here | with_reducible apply Pk.there)) (by rfl))) (by decide) ?_; clear hS; intro aa hS
    refine sA hS hR (Yld.build hS rfl (bld25_0_1 _ _)) (by decide) ?_; clear hS; intro aa hS
    refine sA hS hR (Yld.fieldAddr hS rfl 0 Try.underlying25 rfl rfl info3 (by decide)) (by decide) ?_; clear hS; intro aa hS
    refine sA hS hR (Yld.load1 hS rfl Try.underlying3 rfl (Rd.blk (by repeat (first | with_reducible exact Pk.here | with_reducible apply Pk.there)) (by rfl))) (by decide) ?_; clear hS; intro aa hS
    refine sA hS hR (Yld.move hS rfl) (by decide) ?_; clear hS; intro aa hS
    refine sA hS hR (Yld.min hS rfl rfl) (by decide) ?_; clear hS; intro aa hS
    refine sA hS hR (Yld.build hS rfl (bld25_0_1 _ _)) (by decide) ?_; clear hS; intro aa hS
    refine sA hS hR (Yld.fieldAddr hS rfl 0 Try.underlying25 rfl rfl info3 (by decide)) (by decide) ?_; clear hS; intro aa hS
    refine sA hS hR (Yld.load1 hS rfl Try.underlying3 rfl (Rd.blk (by repeat (first | with_reducible exact Pk.here | with_reducible apply Pk.there)) (by rfl))) (by decide) ?_; clear hS; intro aa hS
    refine sA hS hR (Yld.move hS rfl) (by decide) ?_; clear hS; intro aa hS
    refine sA hS hR (Yld.max hS rfl rfl) (by decide) ?_; clear hS; intro aa hS
    refine sA hS hR (Yld.build hS rfl (bld25_0_1 _ _)) (by decide) ?_; clear hS; intro aa hS
    refine sB (BbuildSlice hS hR rfl (bls31_4_0_1_2_3 _ _ _ _ _ _ _ _) (by decide) ?_); clear hS hR; intro aa ww bb150 hS hR
    obtain ⟨rs150, ⟨hl150, hC150⟩, hR⟩ := Sep.absL (enc := e2) (C := fun rs => rs.length = 4 ∧ ∀ r ∈ rs, ¬ RB t p b r.1 r.2) [(_, _), (_, _), (_, _), (_, _)] hR rfl ⟨rfl, by intro r hr; simp only [List.mem_cons, List.not_mem_nil, or_false] at hr; rcases hr with rfl | rfl | rfl | rfl <;> (unfold RB; dsimp only; omega)⟩
    refine sA hS hR (Yld.len hS rfl Try.underlying31) (by decide) ?_; clear hS; intro aa hS
    refine sA hS hR (Yld.move hS rfl) (by decide) ?_; clear hS; intro aa hS
    refine wpList_nil ?_
    refine hK242 _ _ ?_
    refine wp_block ?_
    refine loopI (X := Nat) (without [8, 18, 19, 20, 21, 22, 152, 153, 154, 155, 156, 157, 158, 159, 160, 161, 162, 163, 164, 165, 166, 167, 168, 169, 170, 171, 172, 173, 174, 175, 176, 177, 178, 179, 180, 181, 182, 183] _) (fun x => [(152, .int .i64 (x : Int))]) (fun x => []) _ (fun x => x ≤ 4) (fun x => 4 - x) 0 (by omega) (hS.le (by refine (Le.cons rfl (Le.nilapp (Le.without _ _))))) hR ?_
    clear hS hR; rintro k152 aa ww hI hS hR; dsimp only [List.cons_append, List.nil_append] at hI hS hR
    refine wp_seq_k ?_; intro K244 hK244
    refine wp_region_lit ?_
    refine sA hS hR (Yld.lss hS rfl rfl) (by decide) ?_; clear hS; intro aa hS
    refine wpList_nil ?_
    refine hK244 _ _ ?_
    refine wp_seq_k ?_; intro K245 hK245
    refine hS.splitB (t := 153) rfl ?_ ?_ <;> clear hS
    · intro hg hS
      have hbb := hC150 _ (List.getElem_mem (show k152 < rs150.length by omega))
      refine condT hS rfl ?_
      refine wp_skip ?_
      refine hK245 _ _ ?_
      refine wp_seq_k ?_; intro K246 hK246
      refine wp_block ?_
      refine wp_seq_k ?_; intro K247 hK247
      refine wp_region_lit ?_
      refine sA hS hR (Yld.indexSlice hS rfl rfl Try.underlying31 info25 (by omega) (by omega)) (by decide) ?_; clear hS; intro aa hS
      refine sA hS hR (Yld.loadAgg hS rfl Try.underlying25 rfl info25 ((Rds.flat (by repeat (first | with_reducible exact Pk.here | with_reducible apply Pk.there)) e2_len (show k152 < rs150.length by omega)).at (by show _ = k152 * 2; have h : (Try.t25).size = 2 := rfl; rw [h]; omega)) (by rfl)) (by decide) ?_; clear hS; intro aa hS
      refine sB (Balloc hS hR info25 (by rfl) (by rfl) (by decide) ?_); clear hS hR; intro aa ww bb18 hS hR
      refine sB (Bstore hS hR rfl rfl (by rfl) info25 (by rfl) (by repeat (first | with_reducible exact Pk.here | with_reducible apply Pk.there)) (by rfl) (Nat.le_of_ble_eq_true rfl) ?_); clear hR; intro ww hR
      refine wpList_nil ?_
      refine hK247 _ _ ?_
      refine wp_seq_k ?_; intro K248 hK248
      refine wp_region_lit ?_
      refine sA hS hR (Yld.loadAgg hS rfl Try.underlying23 rfl info23 (Rds.cons (Rd.blk (by repeat (first | with_reducible exact Pk.here | with_reducible apply Pk.there)) (by rfl)) (Rds.cons (Rd.blk (by repeat (first | with_reducible exact Pk.here | with_reducible apply Pk.there)) (by rfl)) (Rds.cons (Rd.blk (by repeat (first | with_reducible exact Pk.here | with_reducible apply Pk.there)) (by rfl)) (Rds.nil)))) (by rfl)) (by decide) ?_; clear hS; intro aa hS
      refine sA hS hR (Yld.loadAgg hS rfl Try.underlying25 rfl info25 (Rds.cons (Rd.blk (by repeat (first | with_reducible exact Pk.here | with_reducible apply Pk.there)) (by rfl)) (Rds.cons (Rd.blk (by repeat (first | with_reducible exact Pk.here | with_reducible apply Pk.there)) (by rfl)) (Rds.nil))) (by rfl)) (by decide) ?_; clear hS; intro aa hS
      refine sA hS hR (Yld.fieldAddr hS rfl 1 Try.underlying25 rfl rfl info3 (by decide)) (by decide) ?_; clear hS; intro aa hS
      refine sA hS hR (Yld.load1 hS rfl Try.underlying3 rfl (Rd.blk (by repeat (first | with_reducible exact Pk.here | with_reducible apply Pk.there)) (by rfl))) (by decide) ?_; clear hS; intro aa hS
      refine sB (Bcall hS rfl Try.call21 (Fill_ok hR) (by decide) ?_); clear hS; intro aa ww vv hS hp
      clear hR
      obtain ⟨rfl, hR⟩ := hp
      rw [fillF_neg (fun h => hbb h.1)] at hS; dsimp only at hS
      refine sA hS hR (Yld.move hS rfl) (by decide) ?_; clear hS; intro aa hS
      refine sA hS hR (Yld.extract hS rfl rfl) (by decide) ?_; clear hS; intro aa hS
      refine sA hS hR (Yld.extract hS rfl rfl) (by decide) ?_; clear hS; intro aa hS
      refine sB (Balloc hS hR info25 (by rfl) (by rfl) (by decide) ?_); clear hS hR; intro aa ww bb19 hS hR
      refine sB (Bstore hS hR rfl rfl (by rfl) info25 (by rfl) (by repeat (first | with_reducible exact Pk.here | with_reducible apply Pk.there)) (by rfl) (Nat.le_of_ble_eq_true rfl) ?_); clear hR; intro ww hR
      refine sA hS hR (Yld.assign hS rfl) (by decide) ?_; clear hS; intro aa hS
      refine wpList_nil ?_
      refine hK248 _ _ ?_
      refine wp_seq_k ?_; intro K249 hK249
      refine wp_region_lit ?_
      refine sA hS hR (Yld.loadAgg hS rfl Try.underlying23 rfl info23 (Rds.cons (Rd.blk (by repeat (first | with_reducible exact Pk.here | with_reducible apply Pk.there)) (by rfl)) (Rds.cons (Rd.blk (by repeat (first | with_reducible exact Pk.here | with_reducible apply Pk.there)) (by rfl)) (Rds.cons (Rd.blk (by repeat (first | with_reducible exact Pk.here | with_reducible apply Pk.there)) (by rfl)) (Rds.nil)))) (by rfl)) (by decide) ?_; clear hS; intro aa hS
      refine sA hS hR (Yld.loadAgg hS rfl Try.underlying25 rfl info25 (Rds.cons (Rd.blk (by repeat (first | with_reducible exact Pk.here | with_reducible apply Pk.there)) (by rfl)) (Rds.cons (Rd.blk (by repeat (first | with_reducible exact Pk.here | with_reducible apply Pk.there)) (by rfl)) (Rds.nil))) (by rfl)) (by decide) ?_; clear hS; intro aa hS
      refine sA hS hR (Yld.fieldAddr hS rfl 1 Try.underlying25 rfl rfl info3 (by decide)) (by decide) ?_; clear hS; intro aa hS
      refine sA hS hR (Yld.load1 hS rfl Try.underlying3 rfl (Rd.blk (by repeat (first | with_reducible exact Pk.here | with_reducible apply Pk.there)) (by rfl))) (by decide) ?_; clear hS; intro aa hS
      refine sB (Bcall hS rfl Try.call23 (Wait_ok hR) (by decide) ?_); clear hS; intro aa ww vv hS hp
      clear hR
      obtain ⟨rfl, hR⟩ := hp
      rw [waitF_no (.inl (fun h => hbb h.1))] at hS; dsimp only at hS
      refine sA hS hR (Yld.move hS rfl) (by decide) ?_; clear hS; intro aa hS
      refine sA hS hR (Yld.extract hS rfl rfl) (by decide) ?_; clear hS; intro aa hS
      refine sA hS hR (Yld.extract hS rfl rfl) (by decide) ?_; clear hS; intro aa hS
      refine sA hS hR (Yld.assign hS rfl) (by decide) ?_; clear hS; intro aa hS
      refine sA hS hR (Yld.assign hS rfl) (by decide) ?_; clear hS; intro aa hS
      refine wpList_nil ?_
      refine hK249 _ _ ?_
      refine wp_seq_k ?_; intro K250 hK250
      refine wp_region_lit ?_
      refine sA hS hR (Yld.loadAgg hS rfl Try.underlying23 rfl info23 (Rds.cons (Rd.blk (by repeat (first | with_reducible exact Pk.here | with_reducible apply Pk.there)) (by rfl)) (Rds.cons (Rd.blk (by repeat (first | with_reducible exact Pk.here | with_reducible apply Pk.there)) (by rfl)) (Rds.cons (Rd.blk (by repeat (first | with_reducible exact Pk.here | with_reducible apply Pk.there)) (by rfl)) (Rds.nil)))) (by rfl)) (by decide) ?_; clear hS; intro aa hS
      refine sA hS hR (Yld.loadAgg hS rfl Try.underlying25 rfl info25 (Rds.cons (Rd.blk (by repeat (first | with_reducible exact Pk.here | with_reducible apply Pk.there)) (by rfl)) (Rds.cons (Rd.blk (by repeat (first | with_reducible exact Pk.here | with_reducible apply Pk.there)) (by rfl)) (Rds.nil))) (by rfl)) (by decide) ?_; clear hS; intro aa hS
      refine sB (Bcall hS rfl Try.call19 (Right_ok hR) (by decide) ?_); clear hS; intro aa ww vv hS hp
      clear hR
      obtain ⟨rfl, hR⟩ := hp
      replace hS := hS.sayB (t := 174) false rfl (by exact decide_eq_false hbb)
      refine sA hS hR (Yld.move hS rfl) (by decide) ?_; clear hS; intro aa hS
      refine sAg hS hR rfl rfl (Yld.move hS rfl) (by decide) ?_; clear hS; intro aa hS
      refine sAg hS hR rfl rfl (Yld.neq hS rfl rfl) (by decide) ?_; clear hS; intro aa hS
      replace hS := hS.sayB (t := 177) false rfl (by simp)
      refine sA hS hR (Yld.pickF hS rfl rfl) (by decide) ?_; clear hS; intro aa hS
      refine sA hS hR (Yld.move hS rfl) (by decide) ?_; clear hS; intro aa hS
      refine sAg hS hR rfl rfl (Yld.move hS rfl) (by decide) ?_; clear hS; intro aa hS
      refine sAg hS hR rfl rfl (Yld.neq hS rfl rfl) (by decide) ?_; clear hS; intro aa hS
      replace hS := hS.sayB (t := 181) false rfl (by simp)
      refine sA hS hR (Yld.pickF hS rfl rfl) (by decide) ?_; clear hS; intro aa hS
      refine wpList_nil ?_
      refine hK250 _ _ ?_
      refine condF hS rfl ?_
      refine wp_skip ?_
      refine hK246 _ _ ?_
      refine wp_region_lit ?_
      refine sA hS hR ((by first | exact Yld.add64 hS rfl rfl (by omega) | exact Yld.add hS rfl rfl)) (by decide) ?_; clear hS; intro aa hS
      refine sA hS hR (Yld.move hS rfl) (by decide) ?_; clear hS; intro aa hS
      refine wpList_nil ?_
      
      refine ⟨k152 + 1, ?_, ?_, hS.le (Le.cons rfl (Le.nilapp (by repeat (first | with_reducible exact Le.refl _ | refine Le.skip (lk_without rfl) ?_)))), hR.sub (Ex.nilapp (by repeat (first | with_reducible exact Ex.refl | with_reducible apply Ex.drop)))⟩
      · omega
      · omega
    · intro hg hS
      refine condF hS rfl ?_
      refine wp_exit ?_
      refine hK241 _ _ ?_
      refine wp_seq_k ?_; intro K251 hK251
      refine wp_region_lit ?_
      refine sA hS hR (Yld.loadAgg hS rfl Try.underlying23 rfl info23 (Rds.cons (Rd.blk (by repeat (first | with_reducible exact Pk.here | with_reducible apply Pk.there)) (by rfl)) (Rds.cons (Rd.blk (by repeat (first | with_reducible exact Pk.here | with_reducible apply Pk.there)) (by rfl)) (Rds.cons (Rd.blk (by repeat (first | with_reducible exact Pk.here | with_reducible apply Pk.there)) (by rfl)) (Rds.nil)))) (by rfl)) (by decide) ?_; clear hS; intro aa hS
      refine sA hS hR (Yld.move hS rfl) (by decide) ?_; clear hS; intro aa hS
      refine sA hS hR (Yld.min hS rfl rfl) (by decide) ?_; clear hS; intro aa hS
      refine sB (Bcall hS rfl Try.call16 (Full_ok hR) (by decide) ?_); clear hS; intro aa ww vv hS hp
      clear hR
      obtain ⟨rfl, hR⟩ := hp
      rw [show fullF _ _ _ _ = (0, 0, 2) from if_neg (fun h => by have := h.2.1; omega)] at hS; dsimp only at hS
      refine sA hS hR (Yld.move hS rfl) (by decide) ?_; clear hS; intro aa hS
      refine sA hS hR (Yld.extract hS rfl rfl) (by decide) ?_; clear hS; intro aa hS
      refine sA hS hR (Yld.extract hS rfl rfl) (by decide) ?_; clear hS; intro aa hS
      refine sB (Balloc hS hR info25 (by rfl) (by rfl) (by decide) ?_); clear hS hR; intro aa ww bb23 hS hR
      refine sB (Bstore hS hR rfl rfl (by rfl) info25 (by rfl) (by repeat (first | with_reducible exact Pk.here | with_reducible apply Pk.there)) (by rfl) (Nat.le_of_ble_eq_true rfl) ?_); clear hR; intro ww hR
      refine sA hS hR (Yld.assign hS rfl) (by decide) ?_; clear hS; intro aa hS
      refine wpList_nil ?_
      refine hK251 _ _ ?_
      refine wp_seq_k ?_; intro K252 hK252
      refine wp_region_lit ?_
      refine sA hS hR (Yld.loadAgg hS rfl Try.underlying23 rfl info23 (Rds.cons (Rd.blk (by repeat (first | with_reducible exact Pk.here | with_reducible apply Pk.there)) (by rfl)) (Rds.cons (Rd.blk (by repeat (first | with_reducible exact Pk.here | with_reducible apply Pk.there)) (by rfl)) (Rds.cons (Rd.blk (by repeat (first | with_reducible exact Pk.here | with_reducible apply Pk.there)) (by rfl)) (Rds.nil)))) (by rfl)) (by decide) ?_; clear hS; intro aa hS
      refine sA hS hR (Yld.loadAgg hS rfl Try.underlying25 rfl info25 (Rds.cons (Rd.blk (by repeat (first | with_reducible exact Pk.here | with_reducible apply Pk.there)) (by rfl)) (Rds.cons (Rd.blk (by repeat (first | with_reducible exact Pk.here | with_reducible apply Pk.there)) (by rfl)) (Rds.nil))) (by rfl)) (by decide) ?_; clear hS; intro aa hS
      refine sA hS hR (Yld.move hS rfl) (by decide) ?_; clear hS; intro aa hS
      refine sA hS hR (Yld.fieldAddr hS rfl 1 Try.underlying25 rfl rfl info3 (by decide)) (by decide) ?_; clear hS; intro aa hS
      refine sA hS hR (Yld.load1 hS rfl Try.underlying3 rfl (Rd.blk (by repeat (first | with_reducible exact Pk.here | with_reducible apply Pk.there)) (by rfl))) (by decide) ?_; clear hS; intro aa hS
      refine sA hS hR ((by first | exact Yld.sub64 hS rfl rfl (by omega) | exact Yld.sub hS rfl rfl)) (by decide) ?_; clear hS; intro aa hS
      refine sA hS hR (Yld.min hS rfl rfl) (by decide) ?_; clear hS; intro aa hS
      refine sB (Bcall hS rfl Try.call21 (Fill_ok hR) (by decide) ?_); clear hS; intro aa ww vv hS hp
      clear hR
      obtain ⟨rfl, hR⟩ := hp
      rw [fillF_neg (fun h => by have := h.2.1; omega)] at hS; dsimp only at hS
      refine sA hS hR (Yld.move hS rfl) (by decide) ?_; clear hS; intro aa hS
      refine sA hS hR (Yld.extract hS rfl rfl) (by decide) ?_; clear hS; intro aa hS
      refine sA hS hR (Yld.extract hS rfl rfl) (by decide) ?_; clear hS; intro aa hS
      refine sB (Balloc hS hR info25 (by rfl) (by rfl) (by decide) ?_); clear hS hR; intro aa ww bb25 hS hR
      refine sB (Bstore hS hR rfl rfl (by rfl) info25 (by rfl) (by repeat (first | with_reducible exact Pk.here | with_reducible apply Pk.there)) (by rfl) (Nat.le_of_ble_eq_true rfl) ?_); clear hR; intro ww hR
      refine sA hS hR (Yld.assign hS rfl) (by decide) ?_; clear hS; intro aa hS
      refine wpList_nil ?_
      refine hK252 _ _ ?_
      refine wp_seq_k ?_; intro K253 hK253
      refine wp_region_lit ?_
      refine sA hS hR (Yld.loadAgg hS rfl Try.underlying23 rfl info23 (Rds.cons (Rd.blk (by repeat (first | with_reducible exact Pk.here | with_reducible apply Pk.there)) (by rfl)) (Rds.cons (Rd.blk (by repeat (first | with_reducible exact Pk.here | with_reducible apply Pk.there)) (by rfl)) (Rds.cons (Rd.blk (by repeat (first | with_reducible exact Pk.here | with_reducible apply Pk.there)) (by rfl)) (Rds.nil)))) (by rfl)) (by decide) ?_; clear hS; intro aa hS
      refine sA hS hR (Yld.loadAgg hS rfl Try.underlying25 rfl info25 (Rds.cons (Rd.blk (by repeat (first | with_reducible exact Pk.here | with_reducible apply Pk.there)) (by rfl)) (Rds.cons (Rd.blk (by repeat (first | with_reducible exact Pk.here | with_reducible apply Pk.there)) (by rfl)) (Rds.nil))) (by rfl)) (by decide) ?_; clear hS; intro aa hS
      refine sA hS hR (Yld.move hS rfl) (by decide) ?_; clear hS; intro aa hS
      refine sA hS hR (Yld.max hS rfl rfl) (by decide) ?_; clear hS; intro aa hS
      refine sB (Bcall hS rfl Try.call22 (Tokens_ok hR) (by decide) ?_); clear hS; intro aa ww vv hS hp
      clear hR
      obtain ⟨rfl, hR⟩ := hp
      rw [tokF_neg (fun h => by have := h.2.2; omega)] at hS; dsimp only at hS
      refine sA hS hR (Yld.move hS rfl) (by decide) ?_; clear hS; intro aa hS
      refine sA hS hR (Yld.extract hS rfl rfl) (by decide) ?_; clear hS; intro aa hS
      refine sA hS hR (Yld.extract hS rfl rfl) (by decide) ?_; clear hS; intro aa hS
      refine sA hS hR (Yld.assign hS rfl) (by decide) ?_; clear hS; intro aa hS
      refine sA hS hR (Yld.assign hS rfl) (by decide) ?_; clear hS; intro aa hS
      refine wpList_nil ?_
      refine hK253 _ _ ?_
      refine wp_seq_k ?_; intro K254 hK254
      refine wp_region_lit ?_
      refine sA hS hR (Yld.loadAgg hS rfl Try.underlying23 rfl info23 (Rds.cons (Rd.blk (by repeat (first | with_reducible exact Pk.here | with_reducible apply Pk.there)) (by rfl)) (Rds.cons (Rd.blk (by repeat (first | with_reducible exact Pk.here | with_reducible apply Pk.there)) (by rfl)) (Rds.cons (Rd.blk (by repeat (first | with_reducible exact Pk.here | with_reducible apply Pk.there)) (by rfl)) (Rds.nil)))) (by rfl)) (by decide) ?_; clear hS; intro aa hS
      refine sA hS hR (Yld.loadAgg hS rfl Try.underlying25 rfl info25 (Rds.cons (Rd.blk (by repeat (first | with_reducible exact Pk.here | with_reducible apply Pk.there)) (by rfl)) (Rds.cons (Rd.blk (by repeat (first | with_reducible exact Pk.here | with_reducible apply Pk.there)) (by rfl)) (Rds.nil))) (by rfl)) (by decide) ?_; clear hS; intro aa hS
      refine sA hS hR (Yld.fieldAddr hS rfl 1 Try.underlying25 rfl rfl info3 (by decide)) (by decide) ?_; clear hS; intro aa hS
      refine sA hS hR (Yld.load1 hS rfl Try.underlying3 rfl (Rd.blk (by repeat (first | with_reducible exact Pk.here | with_reducible apply Pk.there)) (by rfl))) (by decide) ?_; clear hS; intro aa hS
      refine sA hS hR (Yld.move hS rfl) (by decide) ?_; clear hS; intro aa hS
      refine sA hS hR (Yld.min hS rfl rfl) (by decide) ?_; clear hS; intro aa hS
      refine sB (Bcall hS rfl Try.call17 (Take_ok hR) (by decide) ?_); clear hS; intro aa ww vv hS hp
      clear hR
      obtain ⟨rfl, hR⟩ := hp
      rw [takeF_no (.inr (.inl (by omega)))] at hS; dsimp only at hS
      refine sA hS hR (Yld.move hS rfl) (by decide) ?_; clear hS; intro aa hS
      refine sA hS hR (Yld.extract hS rfl rfl) (by decide) ?_; clear hS; intro aa hS
      refine sA hS hR (Yld.extract hS rfl rfl) (by decide) ?_; clear hS; intro aa hS
      refine sB (Balloc hS hR info25 (by rfl) (by rfl) (by decide) ?_); clear hS hR; intro aa ww bb29 hS hR
      refine sB (Bstore hS hR rfl rfl (by rfl) info25 (by rfl) (by repeat (first | with_reducible exact Pk.here | with_reducible apply Pk.there)) (by rfl) (Nat.le_of_ble_eq_true rfl) ?_); clear hR; intro ww hR
      refine sA hS hR (Yld.assign hS rfl) (by decide) ?_; clear hS; intro aa hS
      refine wpList_nil ?_
      refine hK254 _ _ ?_
      refine wp_seq_k ?_; intro K255 hK255
      refine wp_region_lit ?_
      refine sA hS hR (Yld.loadAgg hS rfl Try.underlying23 rfl info23 (Rds.cons (Rd.blk (by repeat (first | with_reducible exact Pk.here | with_reducible apply Pk.there)) (by rfl)) (Rds.cons (Rd.blk (by repeat (first | with_reducible exact Pk.here | with_reducible apply Pk.there)) (by rfl)) (Rds.cons (Rd.blk (by repeat (first | with_reducible exact Pk.here | with_reducible apply Pk.there)) (by rfl)) (Rds.nil)))) (by rfl)) (by decide) ?_; clear hS; intro aa hS
      refine sA hS hR (Yld.loadAgg hS rfl Try.underlying25 rfl info25 (Rds.cons (Rd.blk (by repeat (first | with_reducible exact Pk.here | with_reducible apply Pk.there)) (by rfl)) (Rds.cons (Rd.blk (by repeat (first | with_reducible exact Pk.here | with_reducible apply Pk.there)) (by rfl)) (Rds.nil))) (by rfl)) (by decide) ?_; clear hS; intro aa hS
      refine sA hS hR (Yld.fieldAddr hS rfl 1 Try.underlying25 rfl rfl info3 (by decide)) (by decide) ?_; clear hS; intro aa hS
      refine sA hS hR (Yld.load1 hS rfl Try.underlying3 rfl (Rd.blk (by repeat (first | with_reducible exact Pk.here | with_reducible apply Pk.there)) (by rfl))) (by decide) ?_; clear hS; intro aa hS
      refine sA hS hR (Yld.move hS rfl) (by decide) ?_; clear hS; intro aa hS
      refine sA hS hR (Yld.fieldAddr hS rfl 2 Try.underlying23 rfl rfl info3 (by decide)) (by decide) ?_; clear hS; intro aa hS
      refine sA hS hR (Yld.load1 hS rfl Try.underlying3 rfl (Rd.blk (by repeat (first | with_reducible exact Pk.here | with_reducible apply Pk.there)) (by rfl))) (by decide) ?_; clear hS; intro aa hS
      refine sA hS hR ((by first | exact Yld.add64 hS rfl rfl (by omega) | exact Yld.add hS rfl rfl)) (by decide) ?_; clear hS; intro aa hS
      refine sA hS hR (Yld.max hS rfl rfl) (by decide) ?_; clear hS; intro aa hS
      refine sB (Bcall hS rfl Try.call17 (Take_ok hR) (by decide) ?_); clear hS; intro aa ww vv hS hp
      clear hR
      obtain ⟨rfl, hR⟩ := hp
      rw [takeF_no (.inr (.inr (by omega)))] at hS; dsimp only at hS
      refine sA hS hR (Yld.move hS rfl) (by decide) ?_; clear hS; intro aa hS
      refine sA hS hR (Yld.extract hS rfl rfl) (by decide) ?_; clear hS; intro aa hS
      refine sA hS hR (Yld.extract hS rfl rfl) (by decide) ?_; clear hS; intro aa hS
      refine sB (Balloc hS hR info25 (by rfl) (by rfl) (by decide) ?_); clear hS hR; intro aa ww bb31 hS hR
      refine sB (Bstore hS hR rfl rfl (by rfl) info25 (by rfl) (by repeat (first | with_reducible exact Pk.here | with_reducible apply Pk.there)) (by rfl) (Nat.le_of_ble_eq_true rfl) ?_); clear hR; intro ww hR
      refine sA hS hR (Yld.assign hS rfl) (by decide) ?_; clear hS; intro aa hS
      refine wpList_nil ?_
      refine hK255 _ _ ?_
      refine wp_seq_k ?_; intro K256 hK256
      refine wp_region_lit ?_
      refine sA hS hR (Yld.loadAgg hS rfl Try.underlying23 rfl info23 (Rds.cons (Rd.blk (by repeat (first | with_reducible exact Pk.here | with_reducible apply Pk.there)) (by rfl)) (Rds.cons (Rd.blk (by repeat (first | with_reducible exact Pk.here | with_reducible apply Pk.there)) (by rfl)) (Rds.cons (Rd.blk (by repeat (first | with_reducible exact Pk.here | with_reducible apply Pk.there)) (by rfl)) (Rds.nil)))) (by rfl)) (by decide) ?_; clear hS; intro aa hS
      refine sA hS hR (Yld.loadAgg hS rfl Try.underlying25 rfl info25 (Rds.cons (Rd.blk (by repeat (first | with_reducible exact Pk.here | with_reducible apply Pk.there)) (by rfl)) (Rds.cons (Rd.blk (by repeat (first | with_reducible exact Pk.here | with_reducible apply Pk.there)) (by rfl)) (Rds.nil))) (by rfl)) (by decide) ?_; clear hS; intro aa hS
      refine sA hS hR (Yld.fieldAddr hS rfl 1 Try.underlying25 rfl rfl info3 (by decide)) (by decide) ?_; clear hS; intro aa hS
      refine sA hS hR (Yld.load1 hS rfl Try.underlying3 rfl (Rd.blk (by repeat (first | with_reducible exact Pk.here | with_reducible apply Pk.there)) (by rfl))) (by decide) ?_; clear hS; intro aa hS
      refine sA hS hR (Yld.move hS rfl) (by decide) ?_; clear hS; intro aa hS
      refine sA hS hR (Yld.fieldAddr hS rfl 2 Try.underlying23 rfl rfl info3 (by decide)) (by decide) ?_; clear hS; intro aa hS
      refine sA hS hR (Yld.load1 hS rfl Try.underlying3 rfl (Rd.blk (by repeat (first | with_reducible exact Pk.here | with_reducible apply Pk.there)) (by rfl))) (by decide) ?_; clear hS; intro aa hS
      refine sA hS hR ((by first | exact Yld.add64 hS rfl rfl (by omega) | exact Yld.add hS rfl rfl)) (by decide) ?_; clear hS; intro aa hS
      refine sA hS hR (Yld.max hS rfl rfl) (by decide) ?_; clear hS; intro aa hS
      refine sB (Bcall hS rfl Try.call23 (Wait_ok hR) (by decide) ?_); clear hS; intro aa ww vv hS hp
      clear hR
      obtain ⟨rfl, hR⟩ := hp
      rw [waitF_no (.inr (.inr (by omega)))] at hS; dsimp only at hS
      refine sA hS hR (Yld.move hS rfl) (by decide) ?_; clear hS; intro aa hS
      refine sA hS hR (Yld.extract hS rfl rfl) (by decide) ?_; clear hS; intro aa hS
      refine sA hS hR (Yld.extract hS rfl rfl) (by decide) ?_; clear hS; intro aa hS
      refine sA hS hR (Yld.assign hS rfl) (by decide) ?_; clear hS; intro aa hS
      refine sA hS hR (Yld.assign hS rfl) (by decide) ?_; clear hS; intro aa hS
      refine wpList_nil ?_
      refine hK256 _ _ ?_
      refine wp_seq_k ?_; intro K257 hK257
      refine wp_seq_k ?_; intro K258 hK258
      refine wp_region_lit ?_
      refine sA hS hR (Yld.move hS rfl) (by decide) ?_; clear hS; intro aa hS
      refine sA hS hR (Yld.move hS rfl) (by decide) ?_; clear hS; intro aa hS
      refine sA hS hR (Yld.move hS rfl) (by decide) ?_; clear hS; intro aa hS
      refine sA hS hR (Yld.move hS rfl) (by decide) ?_; clear hS; intro aa hS
      refine sA hS hR (Yld.move hS rfl) (by decide) ?_; clear hS; intro aa hS
      refine sA hS hR (Yld.move hS rfl) (by decide) ?_; clear hS; intro aa hS
      refine sB (BbuildSlice hS hR rfl (bls57_6_0_1_2_3_4_5 _ _ _ _ _ _) (by decide) ?_); clear hS hR; intro aa ww bb252 hS hR
      obtain ⟨rs252, ⟨hl252, hC252⟩, hR⟩ := Sep.absL (enc := e1) (C := fun rs => rs.length = 6 ∧ ∀ r ∈ rs, r = 2) [_, _, _, _, _, _] hR rfl ⟨rfl, by intro r hr; simp only [List.mem_cons, List.not_mem_nil, or_false] at hr; rcases hr with rfl | rfl | rfl | rfl | rfl | rfl <;> rfl⟩
      refine sA hS hR (Yld.len hS rfl Try.underlying57) (by decide) ?_; clear hS; intro aa hS
      refine sA hS hR (Yld.move hS rfl) (by decide) ?_; clear hS; intro aa hS
      refine wpList_nil ?_
      refine hK258 _ _ ?_
      refine wp_block ?_
      refine loopI (X := Nat) (without [8, 36, 254, 255, 256, 257, 258, 259, 260] _) (fun x => [(254, .int .i64 (x : Int))]) (fun x => []) _ (fun x => x ≤ 6) (fun x => 6 - x) 0 (by omega) (hS.le (by refine (Le.cons rfl (Le.nilapp (Le.without _ _))))) hR ?_
      clear hS hR; rintro k254 aa ww hI hS hR; dsimp only [List.cons_append, List.nil_append] at hI hS hR
      refine wp_seq_k ?_; intro K260 hK260
      refine wp_region_lit ?_
      refine sA hS hR (Yld.lss hS rfl rfl) (by decide) ?_; clear hS; intro aa hS
      refine wpList_nil ?_
      refine hK260 _ _ ?_
      refine wp_seq_k ?_; intro K261 hK261
      refine hS.splitB (t := 255) rfl ?_ ?_ <;> clear hS
      · intro hg hS
        have hee := hC252 _ (List.getElem_mem (show k254 < rs252.length by omega))
        refine condT hS rfl ?_
        refine wp_skip ?_
        refine hK261 _ _ ?_
        refine wp_seq_k ?_; intro K262 hK262
        refine wp_block ?_
        refine wp_seq_k ?_; intro K263 hK263
        refine wp_region_lit ?_
        refine sA hS hR (Yld.indexSlice hS rfl rfl Try.underlying57 info36 (by omega) (by omega)) (by decide) ?_; clear hS; intro aa hS
        refine sA hS hR (Yld.load1 hS rfl Try.underlying36 rfl (Rds.rd ((Rds.flat (by repeat (first | with_reducible exact Pk.here | with_reducible apply Pk.there)) e1_len (show k254 < rs252.length by omega)).at (by show _ = k254 * 1; have h : (Try.t36).size = 1 := rfl; rw [h]; omega)) rfl)) (by decide) ?_; clear hS; intro aa hS
        refine sA hS hR (Yld.assign hS rfl) (by decide) ?_; clear hS; intro aa hS
        refine wpList_nil ?_
        refine hK263 _ _ ?_
        refine wp_seq_k ?_; intro K264 hK264
        refine wp_region_lit ?_
        refine sA hS hR (Yld.move hS rfl) (by decide) ?_; clear hS; intro aa hS
        refine sA hS hR (Yld.neq hS rfl rfl) (by decide) ?_; clear hS; intro aa hS
        replace hS := hS.sayB (t := 259) false rfl (by simp [hee])
        refine wpList_nil ?_
        refine hK264 _ _ ?_
        refine condF hS rfl ?_
        refine wp_skip ?_
        refine hK262 _ _ ?_
        refine wp_region_lit ?_
        refine sA hS hR ((by first | exact Yld.add64 hS rfl rfl (by omega) | exact Yld.add hS rfl rfl)) (by decide) ?_; clear hS; intro aa hS
        refine sA hS hR (Yld.move hS rfl) (by decide) ?_; clear hS; intro aa hS
        refine wpList_nil ?_
        
        refine ⟨k254 + 1, ?_, ?_, hS.le (Le.cons rfl (Le.nilapp (by repeat (first | with_reducible exact Le.refl _ | refine Le.skip (lk_without rfl) ?_)))), hR.sub (Ex.nilapp (by repeat (first | with_reducible exact Ex.refl | with_reducible apply Ex.drop)))⟩
        · omega
        · omega
      · intro hg hS
        refine condF hS rfl ?_
        refine wp_exit ?_
        refine hK257 _ _ ?_
        refine wp_seq_k ?_; intro K265 hK265
        refine wp_region_lit ?_
        refine sA hS hR (Yld.loadAgg hS rfl Try.underlying23 rfl info23 (Rds.cons (Rd.blk (by repeat (first | with_reducible exact Pk.here | with_reducible apply Pk.there)) (by rfl)) (Rds.cons (Rd.blk (by repeat (first | with_reducible exact Pk.here | with_reducible apply Pk.there)) (by rfl)) (Rds.cons (Rd.blk (by repeat (first | with_reducible exact Pk.here | with_reducible apply Pk.there)) (by rfl)) (Rds.nil)))) (by rfl)) (by decide) ?_; clear hS; intro aa hS
        refine sB (Bcall hS rfl Try.call24 (RightRate_ok hR) (by decide) ?_); clear hS; intro aa ww vv hS hp
        clear hR
        obtain ⟨rfl, hR⟩ := hp
        replace hS := hS.sayB (t := 262) true rfl (by exact decide_eq_true hM.rr)
        refine sA hS hR (Yld.move hS rfl) (by decide) ?_; clear hS; intro aa hS
        refine sAg hS hR rfl rfl (Yld.loadAgg hS rfl Try.underlying23 rfl info23 (Rds.cons (Rd.blk (by repeat (first | with_reducible exact Pk.here | with_reducible apply Pk.there)) (by rfl)) (Rds.cons (Rd.blk (by repeat (first | with_reducible exact Pk.here | with_reducible apply Pk.there)) (by rfl)) (Rds.cons (Rd.blk (by repeat (first | with_reducible exact Pk.here | with_reducible apply Pk.there)) (by rfl)) (Rds.nil)))) (by rfl)) (by decide) ?_; clear hS; intro aa hS
        refine sAg hS hR rfl rfl (Yld.loadAgg hS rfl Try.underlying25 rfl info25 (Rds.cons (Rd.blk (by repeat (first | with_reducible exact Pk.here | with_reducible apply Pk.there)) (by rfl)) (Rds.cons (Rd.blk (by repeat (first | with_reducible exact Pk.here | with_reducible apply Pk.there)) (by rfl)) (Rds.nil))) (by rfl)) (by decide) ?_; clear hS; intro aa hS
        refine sBg hS rfl rfl (Bcall hS rfl Try.call19 (Right_ok hR) (by decide) ?_); clear hS; intro aa ww vv hS hp
        clear hR
        obtain ⟨rfl, hR⟩ := hp
        replace hS := hS.sayB (t := 266) true rfl (by exact decide_eq_true (hM.rb hL (by omega)))
        refine sA hS hR (Yld.pickT hS rfl rfl) (by decide) ?_; clear hS; intro aa hS
        refine sA hS hR (Yld.assign hS rfl) (by decide) ?_; clear hS; intro aa hS
        refine wpList_nil ?_
        refine hK265 _ _ ?_
        refine wp_ret ?_
        repeat (first | with_reducible refine thenR ?_ | with_reducible refine blockR ?_ | with_reducible refine scopeR ?_)
        refine ret1 (fn := Try.f10) (e := .ret) (.inl rfl) Try.results10 hS hR ⟨_, (.tmp rfl), ?_⟩
        exact ⟨rfl, (hR.sub (by repeat (first | with_reducible exact Ex.refl | with_reducible apply Ex.drop)))⟩
end Go.Proofs.Ytioacnbpnnabaaa.Sx
