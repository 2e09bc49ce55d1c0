/-
  
-/
import Derived.Test.YtojeibjlkbffcaaLtE
namespace Go.Proofs.Ytojeibjlkbffcaa.Sx
open Go
set_option linter.unusedVariables false
set_option linter.unusedSimpArgs false

theorem info23 : Try.prog.info? 23 = some Try.t23 := by kernel_rfl
theorem bld50_0_1 (x0 : Int) (x1 : Int) (w : World) : (Instr.build 50 [(0, .int .u8 x0), (1, .int .i64 x1)].toArray).run Try.prog w = .ok (.agg [.int .u8 x0, .int .i64 x1].toArray) w := by kernel_rfl
theorem bld56_  (w : World) : (Instr.build 56 [].toArray).run Try.prog w = .ok (.agg [.pointer none, .slice none 0 0, .int .i64 0].toArray) w := by kernel_rfl
theorem bls27_5_0_1_2_3_4 (x0 : Int) (x1 : Int) (x2 : Int) (x3 : Int) (x4 : Int) (w : World) : (Instr.buildSlice 27 5 [(0, .int .i64 x0), (1, .int .i64 x1), (2, .int .i64 x2), (3, .int .i64 x3), (4, .int .i64 x4)].toArray).run Try.prog w = .ok (.slice (some ⟨w.heap.size, 0, none⟩) 5 5) (w.alloc (.cells ([.int .i64 x0, .int .i64 x1, .int .i64 x2, .int .i64 x3, .int .i64 x4] : List Value).toArray 3)) := by kernel_rfl
theorem bls57_2_0_1 (x0 : Option Addr) (x1 : Option Addr) (w : World) : (Instr.buildSlice 57 2 [(0, .pointer x0), (1, .pointer x1)].toArray).run Try.prog w = .ok (.slice (some ⟨w.heap.size, 0, none⟩) 2 2) (w.alloc (.cells ([.pointer x0, .pointer x1] : List Value).toArray 23)) := by kernel_rfl

def ePu (p : Option Addr) : List Value := [.pointer p]
set_option maxHeartbeats 8000000 in
set_option maxRecDepth 20000 in
theorem LruSmall_ok {l : List HP} {w : World} (hR : Sep l w) : CallR Try.prog 7 ([] : List Value) w (fun v w' => v = .bool true ∧ Sep l w') := by
  refine enter Try.func7 rfl Try.ntmps7 (Nat.le_of_ble_eq_true rfl) ?_; intro aa hS
  refine wp_seq_k ?_; intro K615 hK615
  refine wp_region_lit ?_
  refine sA hS hR (Yld.assign hS rfl) (by decide) ?_; clear hS; intro aa hS
  refine wpList_nil ?_
  refine hK615 _ _ ?_
  refine wp_seq_k ?_; intro K616 hK616
  refine wp_seq_k ?_; intro K617 hK617
  refine wp_region_lit ?_
  refine sA hS hR (Yld.move hS rfl) (by decide) ?_; clear hS; intro aa hS
  refine wpList_nil ?_
  refine hK617 _ _ ?_
  refine wp_block ?_
  refine loopI (X := Nat) [] (fun x => [(21, .int .i64 (x : Int))]) (fun x => []) _ (fun x => x ≤ 46656) (fun x => 46656 - x) 0 (Nat.zero_le _) (hS.le (Le.cons rfl (Le.nilapp (Le.nil _)))) hR ?_
  clear hS hR; rintro way aa ww hI hS hR; dsimp only [List.cons_append, List.nil_append] at hI hS hR
  refine wp_seq_k ?_; intro K619 hK619
  refine wp_region_lit ?_
  refine sA hS hR (Yld.lss hS rfl rfl) (by decide) ?_; clear hS; intro aa hS
  refine wpList_nil ?_
  refine hK619 _ _ ?_
  refine wp_seq_k ?_; intro K620 hK620
  refine hS.splitB (t := 22) rfl ?_ ?_ <;> clear hS
  · intro hg hS
    refine condT hS rfl ?_
    refine wp_skip ?_
    refine hK620 _ _ ?_
    refine wp_seq_k ?_; intro K621 hK621
    refine wp_block ?_
    refine wp_seq_k ?_; intro K622 hK622
    refine wp_region_lit ?_
    refine sA hS hR (Yld.move hS rfl) (by decide) ?_; clear hS; intro aa hS
    refine sA hS hR (Yld.assign hS rfl) (by decide) ?_; clear hS; intro aa hS
    refine wpList_nil ?_
    refine hK622 _ _ ?_
    refine wp_seq_k ?_; intro K623 hK623
    refine wp_region_lit ?_
    refine sB (Bcall hS rfl Try.call21 (lrNew_ok (S := 3) hR (by decide) (by decide)) (by decide) ?_); clear hS; intro aa ww vv hS hp
    clear hR
    obtain ⟨b, rfl, hR⟩ := hp
    refine sA hS hR (Yld.move hS rfl) (by decide) ?_; clear hS; intro aa hS
    refine sA hS hR (Yld.extract hS rfl rfl) (by decide) ?_; clear hS; intro aa hS
    refine sA hS hR (Yld.extract hS rfl rfl) (by decide) ?_; clear hS; intro aa hS
    refine sA hS hR (Yld.assign hS rfl) (by decide) ?_; clear hS; intro aa hS
    refine sA hS hR (Yld.assign hS rfl) (by decide) ?_; clear hS; intro aa hS
    refine wpList_nil ?_
    refine hK623 _ _ ?_
    refine wp_seq_k ?_; intro K624 hK624
    refine wp_seq_k ?_; intro K625 hK625
    refine wp_region_lit ?_
    refine sA hS hR (Yld.move hS rfl) (by decide) ?_; clear hS; intro aa hS
    refine sA hS hR (Yld.neq hS rfl rfl) (by decide) ?_; clear hS; intro aa hS
    replace hS := hS.sayB (t := 29) false rfl (by decide)
    refine sA hS hR (Yld.move hS rfl) (by decide) ?_; clear hS; intro aa hS
    refine sAg hS hR rfl rfl (Yld.move hS rfl) (by decide) ?_; clear hS; intro aa hS
    refine sAg hS hR rfl rfl (Yld.eqlNil hS rfl rfl Try.underlying23) (by decide) ?_; clear hS; intro aa hS
    replace hS := hS.sayB (t := 32) false rfl (by rfl)
    refine sA hS hR (Yld.pickF hS rfl rfl) (by decide) ?_; clear hS; intro aa hS
    refine wpList_nil ?_
    refine hK625 _ _ ?_
    refine condF hS rfl ?_
    refine wp_skip ?_
    refine hK624 _ _ ?_
    refine wp_seq_k ?_; intro K626 hK626
    refine wp_region_lit ?_
    refine sB (Bcall hS rfl Try.call23 (UNew_ok (S := 3) hR (by decide) (by decide)) (by decide) ?_); clear hS; intro aa ww vv hS hp
    clear hR
    obtain ⟨b2, rfl, hR⟩ := hp
    refine sA hS hR (Yld.assign hS rfl) (by decide) ?_; clear hS; intro aa hS
    refine wpList_nil ?_
    refine hK626 _ _ ?_
    refine wp_seq_k ?_; intro K627 hK627
    refine wp_seq_k ?_; intro K628 hK628
    refine wp_region_lit ?_
    refine sA hS hR (Yld.move hS rfl) (by decide) ?_; clear hS; intro aa hS
    refine sA hS hR (Yld.assign hS rfl) (by decide) ?_; clear hS; intro aa hS
    refine sA hS hR (Yld.assign hS rfl) (by decide) ?_; clear hS; intro aa hS
    refine wpList_nil ?_
    refine hK628 _ _ ?_
    refine wp_block ?_
    replace hR := hR.pk (r := rluA 65 3 b2 3 (fun _ => 0) 0) (by repeat (first | with_reducible exact Pk.here | with_reducible apply Pk.there))
    replace hR := hR.pk (r := lruA 56 80 77 3 b 3 [] (fun _ => 0) 0) (by repeat (first | with_reducible exact Pk.here | with_reducible apply Pk.there))
    refine loopI (X := Nat × Nat × List Nat × (Nat → Int) × Int × (Nat → Int)) [(1, _), (2, _), (3, _), (4, _), (21, _), (22, _), (23, _), (24, _), (25, _), (26, _), (27, _), (28, _), (29, _), (30, _), (31, _), (32, _), (33, _), (34, _), (35, _)] (fun x => [(5, .int .i64 (x.1 : Int)), (6, .int .i64 (x.2.1 : Int))]) (fun x => [lruA 56 80 77 3 b 3 x.2.2.1 x.2.2.2.1 x.2.2.2.2.1, rluA 65 3 b2 3 x.2.2.2.2.2 x.2.2.2.2.1]) _ (fun x => x.1 ≤ 6 ∧ LS 3 x.2.2.1 x.2.2.2.1 x.2.2.2.2.1 x.2.2.2.2.2 ∧ 0 ≤ x.2.2.2.2.1 ∧ x.2.2.2.2.1 ≤ x.1 ∧ x.2.1 ≤ 46656) (fun x => 6 - x.1) (0, way, [], fun _ => 0, 0, fun _ => 0) ⟨Nat.zero_le _, LS.new, by dsimp only; omega, by dsimp only; omega, by dsimp only; omega⟩ (hS.le (Le.cons rfl (Le.cons rfl (Le.nilapp (Le.cons rfl (Le.cons rfl (Le.cons rfl (Le.cons rfl (Le.cons rfl (Le.cons rfl (Le.cons rfl (Le.cons rfl (Le.cons rfl (Le.cons rfl (Le.cons rfl (Le.cons rfl (Le.cons rfl (Le.cons rfl (Le.cons rfl (Le.cons rfl (Le.cons rfl (Le.cons rfl (Le.cons rfl (Le.nil _)))))))))))))))))))))))) hR ?_
    clear hS hR; rintro ⟨i, k, ord, T, now, tm⟩ aa ww hI hS hR; dsimp only [List.cons_append, List.nil_append] at hI hS hR
    refine wp_seq_k ?_; intro K630 hK630
    refine wp_seq_k ?_; intro K631 hK631
    refine wp_region_lit ?_
    refine sA hS hR (Yld.move hS rfl) (by decide) ?_; clear hS; intro aa hS
    refine sA hS hR (Yld.lss hS rfl rfl) (by decide) ?_; clear hS; intro aa hS
    refine wpList_nil ?_
    refine hK631 _ _ ?_
    refine hS.splitB (t := 37) rfl ?_ ?_ <;> clear hS
    · intro hg hS
      refine condT hS rfl ?_
      refine wp_skip ?_
      refine hK630 _ _ ?_
      refine wp_seq_k ?_; intro K632 hK632
      refine wp_block ?_
      refine wp_seq_k ?_; intro K633 hK633
      refine wp_region_lit ?_
      refine sA hS hR (Yld.move hS rfl) (by decide) ?_; clear hS; intro aa hS
      refine sA hS hR (Yld.move hS rfl) (by decide) ?_; clear hS; intro aa hS
      refine sA hS hR (Yld.move hS rfl) (by decide) ?_; clear hS; intro aa hS
      refine sA hS hR ((by first | exact Yld.rem64 hS rfl rfl (by omega) | exact Yld.rem hS rfl rfl (by omega))) (by decide) ?_; clear hS; intro aa hS
      refine sA hS hR ((by first | exact Yld.quo64 hS rfl rfl (by omega) | exact Yld.quo hS rfl rfl (by omega))) (by decide) ?_; clear hS; intro aa hS
      refine sA hS hR ((by first | exact Yld.mul64 hS rfl rfl (by omega) | exact Yld.mul hS rfl rfl)) (by decide) ?_; clear hS; intro aa hS
      refine sA hS hR ((by first | exact Yld.to (Yld.convInt hS rfl rfl Try.underlying5) (congrArg (Value.int .u8) (IntWalk.u8_in _ (by omega))) | exact Yld.convInt hS rfl rfl Try.underlying5)) (by decide) ?_; clear hS; intro aa hS
      refine sA hS hR (Yld.move hS rfl) (by decide) ?_; clear hS; intro aa hS
      refine sA hS hR ((by first | exact Yld.rem64 hS rfl rfl (by omega) | exact Yld.rem hS rfl rfl (by omega))) (by decide) ?_; clear hS; intro aa hS
      refine sA hS hR (Yld.build hS rfl (bld50_0_1 _ _)) (by decide) ?_; clear hS; intro aa hS
      refine sB (Bcall hS rfl Try.call24 (act33_ok (by decide) (by decide) hI.2.1 (by omega) (by omega) ((hR.pk (r := rluA _ _ _ _ _ _) (by repeat (first | with_reducible exact Pk.here | with_reducible apply Pk.there))).pk (r := lruA _ _ _ _ _ _ _ _ _) (by repeat (first | with_reducible exact Pk.here | with_reducible apply Pk.there)))) (by decide) ?_); clear hS; intro aa ww vv hS hp
      clear hR
      obtain ⟨ord3, T3, now3, tm3, rfl, hL3, hb3, hb4, hR⟩ := hp
      refine sA hS hR (Yld.not hS rfl) (by decide) ?_; clear hS; intro aa hS
      refine wpList_nil ?_
      refine hK633 _ _ ?_
      refine condF hS rfl ?_
      refine wp_skip ?_
      refine hK632 _ _ ?_
      refine wp_region_lit ?_
      refine sA hS hR (Yld.move hS rfl) (by decide) ?_; clear hS; intro aa hS
      refine sA hS hR ((by first | exact Yld.add64 hS rfl rfl (by omega) | exact Yld.add hS rfl rfl)) (by decide) ?_; clear hS; intro aa hS
      refine sA hS hR (Yld.move hS rfl) (by decide) ?_; clear hS; intro aa hS
      refine sA hS hR ((by first | exact Yld.quo64 hS rfl rfl (by omega) | exact Yld.quo hS rfl rfl (by omega))) (by decide) ?_; clear hS; intro aa hS
      replace hS := hS.say (t := 41) (.int .i64 ((k / 6 : Nat) : Int)) rfl (by rw [show ((k / 6 : Nat) : Int) = (k : Int) / 6 from by omega])
      refine sA hS hR (Yld.assign hS rfl) (by decide) ?_; clear hS; intro aa hS
      refine sA hS hR (Yld.assign hS rfl) (by decide) ?_; clear hS; intro aa hS
      refine wpList_nil ?_
      
      refine ⟨(i + 1, k / 6, ord3, T3, now3, tm3), ?_, ?_, hS.le (Le.cons rfl (Le.cons rfl (Le.nilapp (Le.cons rfl (Le.cons rfl (Le.cons rfl (Le.cons rfl (Le.cons rfl (Le.cons rfl (Le.cons rfl (Le.cons rfl (Le.cons rfl (Le.cons rfl (Le.cons rfl (Le.cons rfl (Le.cons rfl (Le.cons rfl (Le.cons rfl (Le.cons rfl (Le.cons rfl (Le.cons rfl (Le.cons rfl (Le.nil _))))))))))))))))))))))), hR.sub (Ex.take (by repeat (first | with_reducible exact Pk.here | with_reducible apply Pk.there)) (Ex.take (by repeat (first | with_reducible exact Pk.here | with_reducible apply Pk.there)) (Ex.nilapp (by repeat (first | with_reducible exact Ex.refl | (with_reducible apply Ex.take; · repeat (first | with_reducible exact Pk.here | with_reducible apply Pk.there)) | with_reducible apply Ex.drop)))))⟩
      · exact ⟨by omega, hL3, by dsimp only; omega, by dsimp only; omega, by dsimp only; omega⟩
      · dsimp only; omega
    · intro hg hS
      refine condF hS rfl ?_
      refine wp_exit ?_
      refine hK627 _ _ ?_
      refine wp_seq_k ?_; intro K634 hK634
      refine wp_region_lit ?_
      refine sA hS hR (Yld.move hS rfl) (by decide) ?_; clear hS; intro aa hS
      refine sA hS hR (Yld.move hS rfl) (by decide) ?_; clear hS; intro aa hS
      refine sA hS hR (Yld.move hS rfl) (by decide) ?_; clear hS; intro aa hS
      refine sA hS hR ((by first | exact Yld.rem64 hS rfl rfl (by omega) | exact Yld.rem hS rfl rfl (by omega))) (by decide) ?_; clear hS; intro aa hS
      refine sA hS hR ((by first | exact Yld.sub64 hS rfl rfl (by omega) | exact Yld.sub hS rfl rfl)) (by decide) ?_; clear hS; intro aa hS
      refine sA hS hR (Yld.move hS rfl) (by decide) ?_; clear hS; intro aa hS
      refine sA hS hR ((by first | exact Yld.rem64 hS rfl rfl (by omega) | exact Yld.rem hS rfl rfl (by omega))) (by decide) ?_; clear hS; intro aa hS
      refine sA hS hR ((by first | exact Yld.sub64 hS rfl rfl (by omega) | exact Yld.sub hS rfl rfl)) (by decide) ?_; clear hS; intro aa hS
      refine sB (Bcall hS rfl Try.call25 (same33_ok (by decide) (by decide) hI.2.1 ((hR.pk (r := rluA _ _ _ _ _ _) (by repeat (first | with_reducible exact Pk.here | with_reducible apply Pk.there))).pk (r := lruA _ _ _ _ _ _ _ _ _) (by repeat (first | with_reducible exact Pk.here | with_reducible apply Pk.there)))) (by decide) ?_); clear hS; intro aa ww vv hS hp
      clear hR
      obtain ⟨rfl, hR⟩ := hp
      refine sA hS hR (Yld.not hS rfl) (by decide) ?_; clear hS; intro aa hS
      refine wpList_nil ?_
      refine hK634 _ _ ?_
      refine condF hS rfl ?_
      refine wp_skip ?_
      refine hK621 _ _ ?_
      refine wp_region_lit ?_
      refine sA hS hR ((by first | exact Yld.add64 hS rfl rfl (by omega) | exact Yld.add hS rfl rfl)) (by decide) ?_; clear hS; intro aa hS
      refine sA hS hR (Yld.move hS rfl) (by decide) ?_; clear hS; intro aa hS
      refine wpList_nil ?_
      
      refine ⟨way + 1, ?_, ?_, hS.le (Le.cons rfl (Le.nilapp (Le.nil _))), hR.sub (Ex.nilapp (by repeat (first | with_reducible exact Ex.refl | (with_reducible apply Ex.take; · repeat (first | with_reducible exact Pk.here | with_reducible apply Pk.there)) | with_reducible apply Ex.drop)))⟩
      · omega
      · omega
  · intro hg hS
    refine condF hS rfl ?_
    refine wp_exit ?_
    refine hK616 _ _ ?_
    refine wp_seq_k ?_; intro K635 hK635
    refine wp_seq_k ?_; intro K636 hK636
    refine wp_region_lit ?_
    refine sB (BbuildSlice hS hR rfl (bls27_5_0_1_2_3_4 _ _ _ _ _) (by decide) ?_); clear hS hR; intro aa ww bb65 hS hR
    replace hR := hR.pk (r := blk bb65 _ _) (by repeat (first | with_reducible exact Pk.here | with_reducible apply Pk.there))
    replace hR := Sep.toRecs (m := 5) (sz := 1) (enc := e1) [-1, 0, 1, 4096, 4097] hR rfl (by intro _; rfl) rfl
    obtain ⟨vs5, hvl, hR⟩ : ∃ vs5 : List Int, vs5.length = 5 ∧ Sep (sls (some ⟨bb65, 0, none⟩) 5 5 3 1 (vs5.flatMap e1) :: _) _ := ⟨_, rfl, hR⟩
    refine sA hS hR (Yld.len hS rfl Try.underlying27) (by decide) ?_; clear hS; intro aa hS
    refine sA hS hR (Yld.move hS rfl) (by decide) ?_; clear hS; intro aa hS
    refine wpList_nil ?_
    refine hK636 _ _ ?_
    refine wp_block ?_
    refine loopI (X := Nat) [(65, _), (66, _)] (fun x => [(67, .int .i64 (x : Int))]) (fun x => []) _ (fun x => x ≤ 5) (fun x => 5 - x) 0 (Nat.zero_le _) (hS.le (Le.cons rfl (Le.nilapp (Le.cons rfl (Le.cons rfl (Le.nil _)))))) hR ?_
    clear hS hR; rintro i aa ww hI hS hR; dsimp only [List.cons_append, List.nil_append] at hI hS hR
    refine wp_seq_k ?_; intro K638 hK638
    refine wp_region_lit ?_
    refine sA hS hR (Yld.lss hS rfl rfl) (by decide) ?_; clear hS; intro aa hS
    refine wpList_nil ?_
    refine hK638 _ _ ?_
    refine wp_seq_k ?_; intro K639 hK639
    refine hS.splitB (t := 68) rfl ?_ ?_ <;> clear hS
    · intro hg hS
      refine condT hS rfl ?_
      refine wp_skip ?_
      refine hK639 _ _ ?_
      refine wp_seq_k ?_; intro K640 hK640
      refine wp_block ?_
      refine wp_seq_k ?_; intro K641 hK641
      refine wp_region_lit ?_
      refine sA hS hR ((by first | exact Yld.indexH (sz := 1) (i) hS rfl rfl Try.underlying27 info3 (by assumption) rfl (by first | rfl | omega) (by omega) | exact Yld.indexL (sz := 1) (i) hS rfl rfl Try.underlying27 info3 (by repeat (first | with_reducible exact Pk.here | with_reducible apply Pk.there)) rfl (by first | rfl | omega) (by omega) | exact Yld.indexB (sz := 1) (i) hS rfl rfl Try.underlying27 info3 rfl (by first | rfl | omega) (by omega))) (by decide) ?_; clear hS; intro aa hS
      refine sA hS hR (Yld.load1 hS rfl Try.underlying3 rfl (Rd.rec0 (k := i) (xs := vs5) (v := .int .i64 (vs5[i]'(by omega))) (by repeat (first | with_reducible exact Pk.here | with_reducible apply Pk.there)) (by intro _; rfl) (by omega) (by rfl))) (by decide) ?_; clear hS; intro aa hS
      obtain ⟨v0, hv0⟩ : ∃ y, vs5[i]'(by omega) = y := ⟨_, rfl⟩
      rw [hv0] at hS
      refine sA hS hR (Yld.assign hS rfl) (by decide) ?_; clear hS; intro aa hS
      refine wpList_nil ?_
      refine hK641 _ _ ?_
      refine wp_seq_k ?_; intro K642 hK642
      refine wp_region_lit ?_
      refine sA hS hR (Yld.move hS rfl) (by decide) ?_; clear hS; intro aa hS
      by_cases hn : 1 ≤ v0 ∧ v0 ≤ 4096
      ·
        obtain ⟨S, hS0⟩ : ∃ y : Nat, v0 = y := ⟨v0.toNat, by omega⟩
        rw [hS0] at hS
        refine sB (Bcall hS rfl Try.call21 (lrNew_ok (S := S) hR (by omega) (by omega)) (by decide) ?_); clear hS; intro aa ww vv hS hp
        clear hR
        obtain ⟨b, rfl, hR⟩ := hp
        refine sA hS hR (Yld.move hS rfl) (by decide) ?_; clear hS; intro aa hS
        refine sA hS hR (Yld.extract hS rfl rfl) (by decide) ?_; clear hS; intro aa hS
        refine sA hS hR (Yld.extract hS rfl rfl) (by decide) ?_; clear hS; intro aa hS
        refine sA hS hR (Yld.assign hS rfl) (by decide) ?_; clear hS; intro aa hS
        refine sA hS hR (Yld.assign hS rfl) (by decide) ?_; clear hS; intro aa hS
        refine wpList_nil ?_
        refine hK642 _ _ ?_
        refine wp_seq_k ?_; intro K643 hK643
        refine wp_region_lit ?_
        refine sA hS hR (Yld.move hS rfl) (by decide) ?_; clear hS; intro aa hS
        refine sA hS hR (Yld.eql hS rfl rfl) (by decide) ?_; clear hS; intro aa hS
        replace hS := hS.sayB (t := 77) true rfl (by decide)
        refine sA hS hR (Yld.move hS rfl) (by decide) ?_; clear hS; intro aa hS
        refine sB (Bcall hS rfl Try.call22 (URight_ok hR) (by decide) ?_); clear hS; intro aa ww vv hS hp
        clear hR
        obtain ⟨rfl, hR⟩ := hp
        refine sA hS hR (Yld.neqB hS rfl rfl Try.underlying4) (by decide) ?_; clear hS; intro aa hS
        replace hS := hS.sayB (t := 80) false rfl (by rw [decide_eq_true (by omega)]; rfl)
        refine sA hS hR (Yld.move hS rfl) (by decide) ?_; clear hS; intro aa hS
        refine sAg hS hR rfl rfl (Yld.move hS rfl) (by decide) ?_; clear hS; intro aa hS
        refine sAg hS hR rfl rfl (Yld.eql hS rfl rfl) (by decide) ?_; clear hS; intro aa hS
        replace hS := hS.sayB (t := 83) true rfl (by decide)
        refine sAg hS hR rfl rfl (Yld.move hS rfl) (by decide) ?_; clear hS; intro aa hS
        refine sAg hS hR rfl rfl (Yld.move hS rfl) (by decide) ?_; clear hS; intro aa hS
        refine sAg hS hR rfl rfl (Yld.eqlNil hS rfl rfl Try.underlying23) (by decide) ?_; clear hS; intro aa hS
        replace hS := hS.sayB (t := 86) false rfl (by rfl)
        refine sAg hS hR rfl rfl (Yld.move hS rfl) (by decide) ?_; clear hS; intro aa hS
        refine sAg hS hR rfl rfl (Yld.move hS rfl) (by decide) ?_; clear hS; intro aa hS
        refine sBg hS rfl rfl (Bcall hS rfl Try.call15 (lrLen_ok (hR.pk (r := lruA _ _ _ _ _ _ _ _ _) (by repeat (first | with_reducible exact Pk.here | with_reducible apply Pk.there)))) (by decide) ?_); clear hS; intro aa ww vv hS hp
        clear hR
        obtain ⟨rfl, hR⟩ := hp
        refine sAg hS hR rfl rfl (Yld.neq hS rfl rfl) (by decide) ?_; clear hS; intro aa hS
        replace hS := hS.sayB (t := 90) false rfl (by rfl)
        refine sAg hS hR rfl rfl (Yld.pickF hS rfl rfl) (by decide) ?_; clear hS; intro aa hS
        refine sAg hS hR rfl rfl (Yld.move hS rfl) (by decide) ?_; clear hS; intro aa hS
        refine sAg hS hR rfl rfl (Yld.move hS rfl) (by decide) ?_; clear hS; intro aa hS
        refine sBg hS rfl rfl (Bcall hS rfl Try.call18 (lrNow_ok (hR.pk (r := lruA _ _ _ _ _ _ _ _ _) (by repeat (first | with_reducible exact Pk.here | with_reducible apply Pk.there)))) (by decide) ?_); clear hS; intro aa ww vv hS hp
        clear hR
        obtain ⟨rfl, hR⟩ := hp
        refine sAg hS hR rfl rfl (Yld.neq hS rfl rfl) (by decide) ?_; clear hS; intro aa hS
        replace hS := hS.sayB (t := 95) false rfl (by rfl)
        refine sAg hS hR rfl rfl (Yld.pickF hS rfl rfl) (by decide) ?_; clear hS; intro aa hS
        refine sAg hS hR rfl rfl (Yld.pickT hS rfl rfl) (by decide) ?_; clear hS; intro aa hS
        refine sA hS hR (Yld.pickF hS rfl rfl) (by decide) ?_; clear hS; intro aa hS
        refine wpList_nil ?_
        refine hK643 _ _ ?_
        refine condF hS rfl ?_
        refine wp_skip ?_
        refine hK640 _ _ ?_
        refine wp_region_lit ?_
        refine sA hS hR ((by first | exact Yld.add64 hS rfl rfl (by omega) | exact Yld.add hS rfl rfl)) (by decide) ?_; clear hS; intro aa hS
        refine sA hS hR (Yld.move hS rfl) (by decide) ?_; clear hS; intro aa hS
        refine wpList_nil ?_
        
        refine ⟨i + 1, ?_, ?_, hS.le (Le.cons rfl (Le.nilapp (Le.cons rfl (Le.cons rfl (Le.nil _))))), hR.sub (Ex.nilapp (by repeat (first | with_reducible exact Ex.refl | (with_reducible apply Ex.take; · repeat (first | with_reducible exact Pk.here | with_reducible apply Pk.there)) | with_reducible apply Ex.drop)))⟩
        · omega
        · omega
      ·
        refine sB (Bcall hS rfl Try.call21 (lrNew_bad hR (by omega)) (by decide) ?_); clear hS; intro aa ww vv hS hp
        clear hR
        obtain ⟨rfl, hR⟩ := hp
        refine sA hS hR (Yld.move hS rfl) (by decide) ?_; clear hS; intro aa hS
        refine sA hS hR (Yld.extract hS rfl rfl) (by decide) ?_; clear hS; intro aa hS
        refine sA hS hR (Yld.extract hS rfl rfl) (by decide) ?_; clear hS; intro aa hS
        refine sA hS hR (Yld.assign hS rfl) (by decide) ?_; clear hS; intro aa hS
        refine sA hS hR (Yld.assign hS rfl) (by decide) ?_; clear hS; intro aa hS
        refine wpList_nil ?_
        refine hK642 _ _ ?_
        refine wp_seq_k ?_; intro K644 hK644
        refine wp_region_lit ?_
        refine sA hS hR (Yld.move hS rfl) (by decide) ?_; clear hS; intro aa hS
        refine sA hS hR (Yld.eql hS rfl rfl) (by decide) ?_; clear hS; intro aa hS
        replace hS := hS.sayB (t := 77) false rfl (by decide)
        refine sA hS hR (Yld.move hS rfl) (by decide) ?_; clear hS; intro aa hS
        refine sB (Bcall hS rfl Try.call22 (URight_ok hR) (by decide) ?_); clear hS; intro aa ww vv hS hp
        clear hR
        obtain ⟨rfl, hR⟩ := hp
        refine sA hS hR (Yld.neqB hS rfl rfl Try.underlying4) (by decide) ?_; clear hS; intro aa hS
        replace hS := hS.sayB (t := 80) false rfl (by rw [decide_eq_false hn]; rfl)
        refine sA hS hR (Yld.move hS rfl) (by decide) ?_; clear hS; intro aa hS
        refine sAg hS hR rfl rfl (Yld.move hS rfl) (by decide) ?_; clear hS; intro aa hS
        refine sAg hS hR rfl rfl (Yld.eql hS rfl rfl) (by decide) ?_; clear hS; intro aa hS
        replace hS := hS.sayB (t := 83) false rfl (by decide)
        refine sAg hS hR rfl rfl (Yld.move hS rfl) (by decide) ?_; clear hS; intro aa hS
        refine sSkip hS rfl rfl rfl (by decide) ?_; clear hS; intro aa hS
        refine sSkip hS rfl rfl rfl (by decide) ?_; clear hS; intro aa hS
        refine sSkip hS rfl rfl rfl (by decide) ?_; clear hS; intro aa hS
        refine sSkipU hS rfl rfl (by decide) ?_; clear hS; intro aa hS
        refine sSkipU hS rfl rfl (by decide) ?_; clear hS; intro aa hS
        refine sSkipU hS rfl rfl (by decide) ?_; clear hS; intro aa hS
        refine sSkip hS rfl rfl rfl (by decide) ?_; clear hS; intro aa hS
        refine sSkip hS rfl rfl rfl (by decide) ?_; clear hS; intro aa hS
        refine sSkipU hS rfl rfl (by decide) ?_; clear hS; intro aa hS
        refine sSkipU hS rfl rfl (by decide) ?_; clear hS; intro aa hS
        refine sSkipU hS rfl rfl (by decide) ?_; clear hS; intro aa hS
        refine sSkip hS rfl rfl rfl (by decide) ?_; clear hS; intro aa hS
        refine sAg hS hR rfl rfl (Yld.pickF hS rfl rfl) (by decide) ?_; clear hS; intro aa hS
        refine sA hS hR (Yld.pickF hS rfl rfl) (by decide) ?_; clear hS; intro aa hS
        refine wpList_nil ?_
        refine hK644 _ _ ?_
        refine condF hS rfl ?_
        refine wp_skip ?_
        refine hK640 _ _ ?_
        refine wp_region_lit ?_
        refine sA hS hR ((by first | exact Yld.add64 hS rfl rfl (by omega) | exact Yld.add hS rfl rfl)) (by decide) ?_; clear hS; intro aa hS
        refine sA hS hR (Yld.move hS rfl) (by decide) ?_; clear hS; intro aa hS
        refine wpList_nil ?_
        
        refine ⟨i + 1, ?_, ?_, hS.le (Le.cons rfl (Le.nilapp (Le.cons rfl (Le.cons rfl (Le.nil _))))), hR.sub (Ex.nilapp (by repeat (first | with_reducible exact Ex.refl | (with_reducible apply Ex.take; · repeat (first | with_reducible exact Pk.here | with_reducible apply Pk.there)) | with_reducible apply Ex.drop)))⟩
        · omega
        · omega
    · intro hg hS
      refine condF hS rfl ?_
      refine wp_exit ?_
      refine hK635 _ _ ?_
      refine wp_seq_k ?_; intro K645 hK645
      refine wp_seq_k ?_; intro K646 hK646
      refine wp_region_lit ?_
      refine sA hS hR (Yld.build hS rfl (bld56_)) (by decide) ?_; clear hS; intro aa hS
      refine sB (Bbox hS hR rfl (by rfl) (by decide) ?_); clear hS hR; intro aa ww bb101 hS hR
      refine sB (BbuildSlice hS hR rfl (bls57_2_0_1 _ _) (by decide) ?_); clear hS hR; intro aa ww bb102 hS hR
      replace hR := hR.pk (r := blk bb102 _ _) (by repeat (first | with_reducible exact Pk.here | with_reducible apply Pk.there))
      replace hR := Sep.toRecs (m := 2) (sz := 1) (enc := ePu) ([none, some ⟨bb101, 0, none⟩] : List (Option Addr)) hR rfl (by intro _; rfl) rfl
      refine sA hS hR (Yld.len hS rfl Try.underlying57) (by decide) ?_; clear hS; intro aa hS
      refine sA hS hR (Yld.move hS rfl) (by decide) ?_; clear hS; intro aa hS
      refine wpList_nil ?_
      refine hK646 _ _ ?_
      refine wp_block ?_
      refine loopI (X := Nat) [(102, _), (103, _)] (fun x => [(104, .int .i64 (x : Int))]) (fun x => []) _ (fun x => x ≤ 2) (fun x => 2 - x) 0 (Nat.zero_le _) (hS.le (Le.cons rfl (Le.nilapp (Le.cons rfl (Le.cons rfl (Le.nil _)))))) hR ?_
      clear hS hR; rintro i aa ww hI hS hR; dsimp only [List.cons_append, List.nil_append] at hI hS hR
      refine wp_seq_k ?_; intro K648 hK648
      refine wp_region_lit ?_
      refine sA hS hR (Yld.lss hS rfl rfl) (by decide) ?_; clear hS; intro aa hS
      refine wpList_nil ?_
      refine hK648 _ _ ?_
      refine wp_seq_k ?_; intro K649 hK649
      refine hS.splitB (t := 105) rfl ?_ ?_ <;> clear hS
      · intro hg hS
        refine condT hS rfl ?_
        refine wp_skip ?_
        refine hK649 _ _ ?_
        refine wp_seq_k ?_; intro K650 hK650
        refine wp_block ?_
        refine wp_seq_k ?_; intro K651 hK651
        refine wp_region_lit ?_
        by_cases hn : i = 0
        ·
          refine sA hS hR ((by first | exact Yld.indexH (sz := 1) (i) hS rfl rfl Try.underlying57 info23 (by assumption) rfl (by first | rfl | omega) (by omega) | exact Yld.indexL (sz := 1) (i) hS rfl rfl Try.underlying57 info23 (by repeat (first | with_reducible exact Pk.here | with_reducible apply Pk.there)) rfl (by first | rfl | omega) (by omega) | exact Yld.indexB (sz := 1) (i) hS rfl rfl Try.underlying57 info23 rfl (by first | rfl | omega) (by omega))) (by decide) ?_; clear hS; intro aa hS
          try have hi1 : i = 1 := by omega
          refine sA hS hR (Yld.load1 hS rfl Try.underlying23 rfl (Rd.rec0 (k := i) (xs := ([none, some ⟨bb101, 0, none⟩] : List (Option Addr))) (v := .pointer none) (by repeat (first | with_reducible exact Pk.here | with_reducible apply Pk.there)) (by intro _; rfl) (by show i < 2; omega) (by simp only [hn]; rfl))) (by decide) ?_; clear hS; intro aa hS
          refine sA hS hR (Yld.assign hS rfl) (by decide) ?_; clear hS; intro aa hS
          refine wpList_nil ?_
          refine hK651 _ _ ?_
          refine wp_seq_k ?_; intro K652 hK652
          refine wp_region_lit ?_
          refine sA hS hR (Yld.move hS rfl) (by decide) ?_; clear hS; intro aa hS
          refine sB (Bcall hS rfl Try.call19 (lrSee_n (i := 0) hR) (by decide) ?_); clear hS; intro aa ww vv hS hp
          clear hR
          obtain ⟨rfl, hR⟩ := hp
          refine sA hS hR (Yld.move hS rfl) (by decide) ?_; clear hS; intro aa hS
          refine sA hS hR (Yld.extract hS rfl rfl) (by decide) ?_; clear hS; intro aa hS
          refine sA hS hR (Yld.extract hS rfl rfl) (by decide) ?_; clear hS; intro aa hS
          refine sA hS hR (Yld.assign hS rfl) (by decide) ?_; clear hS; intro aa hS
          refine sA hS hR (Yld.assign hS rfl) (by decide) ?_; clear hS; intro aa hS
          refine wpList_nil ?_
          refine hK652 _ _ ?_
          refine wp_seq_k ?_; intro K653 hK653
          refine wp_region_lit ?_
          refine sA hS hR (Yld.move hS rfl) (by decide) ?_; clear hS; intro aa hS
          refine sB (Bcall hS rfl Try.call12 (lrOldest_n  hR) (by decide) ?_); clear hS; intro aa ww vv hS hp
          clear hR
          obtain ⟨rfl, hR⟩ := hp
          refine sA hS hR (Yld.move hS rfl) (by decide) ?_; clear hS; intro aa hS
          refine sA hS hR (Yld.extract hS rfl rfl) (by decide) ?_; clear hS; intro aa hS
          refine sA hS hR (Yld.extract hS rfl rfl) (by decide) ?_; clear hS; intro aa hS
          replace hS := hS.sayB (t := 117) false rfl (by rfl)
          refine sA hS hR (Yld.assign hS rfl) (by decide) ?_; clear hS; intro aa hS
          refine sA hS hR (Yld.assign hS rfl) (by decide) ?_; clear hS; intro aa hS
          refine wpList_nil ?_
          refine hK653 _ _ ?_
          refine wp_seq_k ?_; intro K654 hK654
          refine wp_region_lit ?_
          refine sA hS hR (Yld.move hS rfl) (by decide) ?_; clear hS; intro aa hS
          refine sB (Bcall hS rfl Try.call26 (lrNewest_n  hR) (by decide) ?_); clear hS; intro aa ww vv hS hp
          clear hR
          obtain ⟨rfl, hR⟩ := hp
          refine sA hS hR (Yld.move hS rfl) (by decide) ?_; clear hS; intro aa hS
          refine sA hS hR (Yld.extract hS rfl rfl) (by decide) ?_; clear hS; intro aa hS
          refine sA hS hR (Yld.extract hS rfl rfl) (by decide) ?_; clear hS; intro aa hS
          replace hS := hS.sayB (t := 122) false rfl (by rfl)
          refine sA hS hR (Yld.assign hS rfl) (by decide) ?_; clear hS; intro aa hS
          refine sA hS hR (Yld.assign hS rfl) (by decide) ?_; clear hS; intro aa hS
          refine wpList_nil ?_
          refine hK654 _ _ ?_
          refine wp_seq_k ?_; intro K655 hK655
          refine wp_region_lit ?_
          refine sA hS hR (Yld.move hS rfl) (by decide) ?_; clear hS; intro aa hS
          refine sB (Bcall hS rfl Try.call20 (lrWhen_n (i := 0) hR) (by decide) ?_); clear hS; intro aa ww vv hS hp
          clear hR
          obtain ⟨rfl, hR⟩ := hp
          refine sA hS hR (Yld.move hS rfl) (by decide) ?_; clear hS; intro aa hS
          refine sA hS hR (Yld.extract hS rfl rfl) (by decide) ?_; clear hS; intro aa hS
          refine sA hS hR (Yld.extract hS rfl rfl) (by decide) ?_; clear hS; intro aa hS
          replace hS := hS.sayB (t := 127) false rfl (by rfl)
          refine sA hS hR (Yld.assign hS rfl) (by decide) ?_; clear hS; intro aa hS
          refine sA hS hR (Yld.assign hS rfl) (by decide) ?_; clear hS; intro aa hS
          refine wpList_nil ?_
          refine hK655 _ _ ?_
          refine wp_seq_k ?_; intro K656 hK656
          refine wp_region_lit ?_
          refine sA hS hR (Yld.move hS rfl) (by decide) ?_; clear hS; intro aa hS
          refine sA hS hR (Yld.neq hS rfl rfl) (by decide) ?_; clear hS; intro aa hS
          replace hS := hS.sayB (t := 129) false rfl (by decide)
          refine sA hS hR (Yld.move hS rfl) (by decide) ?_; clear hS; intro aa hS
          refine sAg hS hR rfl rfl (Yld.move hS rfl) (by decide) ?_; clear hS; intro aa hS
          refine sBg hS rfl rfl (Bcall hS rfl Try.call13 (lrOut_n (i := 0) hR) (by decide) ?_); clear hS; intro aa ww vv hS hp
          clear hR
          obtain ⟨rfl, hR⟩ := hp
          refine sAg hS hR rfl rfl (Yld.move hS rfl) (by decide) ?_; clear hS; intro aa hS
          refine sAg hS hR rfl rfl (Yld.neq hS rfl rfl) (by decide) ?_; clear hS; intro aa hS
          replace hS := hS.sayB (t := 134) false rfl (by decide)
          refine sA hS hR (Yld.pickF hS rfl rfl) (by decide) ?_; clear hS; intro aa hS
          refine sA hS hR (Yld.move hS rfl) (by decide) ?_; clear hS; intro aa hS
          refine sAg hS hR rfl rfl (Yld.move hS rfl) (by decide) ?_; clear hS; intro aa hS
          refine sA hS hR (Yld.pickF hS rfl rfl) (by decide) ?_; clear hS; intro aa hS
          refine sA hS hR (Yld.move hS rfl) (by decide) ?_; clear hS; intro aa hS
          refine sAg hS hR rfl rfl (Yld.move hS rfl) (by decide) ?_; clear hS; intro aa hS
          refine sA hS hR (Yld.pickF hS rfl rfl) (by decide) ?_; clear hS; intro aa hS
          refine sA hS hR (Yld.move hS rfl) (by decide) ?_; clear hS; intro aa hS
          refine sAg hS hR rfl rfl (Yld.move hS rfl) (by decide) ?_; clear hS; intro aa hS
          refine sA hS hR (Yld.pickF hS rfl rfl) (by decide) ?_; clear hS; intro aa hS
          refine sA hS hR (Yld.move hS rfl) (by decide) ?_; clear hS; intro aa hS
          refine sAg hS hR rfl rfl (Yld.move hS rfl) (by decide) ?_; clear hS; intro aa hS
          refine sBg hS rfl rfl (Bcall hS rfl Try.call18 (lrNow_n  hR) (by decide) ?_); clear hS; intro aa ww vv hS hp
          clear hR
          obtain ⟨rfl, hR⟩ := hp
          refine sAg hS hR rfl rfl (Yld.move hS rfl) (by decide) ?_; clear hS; intro aa hS
          refine sBg hS rfl rfl (Bcall hS rfl Try.call15 (lrLen_n  hR) (by decide) ?_); clear hS; intro aa ww vv hS hp
          clear hR
          obtain ⟨rfl, hR⟩ := hp
          refine sAg hS hR rfl rfl ((by first | exact Yld.add64 hS rfl rfl (by omega) | exact Yld.add hS rfl rfl)) (by decide) ?_; clear hS; intro aa hS
          refine sAg hS hR rfl rfl (Yld.move hS rfl) (by decide) ?_; clear hS; intro aa hS
          refine sBg hS rfl rfl (Bcall hS rfl Try.call11 (lrAll_n  hR) (by decide) ?_); clear hS; intro aa ww vv hS hp
          clear hR
          obtain ⟨rfl, hR⟩ := hp
          refine sAg hS hR rfl rfl (Yld.len hS rfl Try.underlying27) (by decide) ?_; clear hS; intro aa hS
          refine sAg hS hR rfl rfl ((by first | exact Yld.add64 hS rfl rfl (by omega) | exact Yld.add hS rfl rfl)) (by decide) ?_; clear hS; intro aa hS
          refine sAg hS hR rfl rfl (Yld.move hS rfl) (by decide) ?_; clear hS; intro aa hS
          refine sBg hS rfl rfl (Bcall hS rfl Try.call17 (lrSince_n (i := -1) hR) (by decide) ?_); clear hS; intro aa ww vv hS hp
          clear hR
          obtain ⟨rfl, hR⟩ := hp
          refine sAg hS hR rfl rfl (Yld.len hS rfl Try.underlying27) (by decide) ?_; clear hS; intro aa hS
          refine sAg hS hR rfl rfl ((by first | exact Yld.add64 hS rfl rfl (by omega) | exact Yld.add hS rfl rfl)) (by decide) ?_; clear hS; intro aa hS
          refine sAg hS hR rfl rfl (Yld.neq hS rfl rfl) (by decide) ?_; clear hS; intro aa hS
          replace hS := hS.sayB (t := 159) false rfl (by decide)
          refine sA hS hR (Yld.pickF hS rfl rfl) (by decide) ?_; clear hS; intro aa hS
          refine wpList_nil ?_
          refine hK656 _ _ ?_
          refine condF hS rfl ?_
          refine wp_skip ?_
          refine hK650 _ _ ?_
          refine wp_region_lit ?_
          refine sA hS hR ((by first | exact Yld.add64 hS rfl rfl (by omega) | exact Yld.add hS rfl rfl)) (by decide) ?_; clear hS; intro aa hS
          refine sA hS hR (Yld.move hS rfl) (by decide) ?_; clear hS; intro aa hS
          refine wpList_nil ?_
          
          refine ⟨i + 1, ?_, ?_, hS.le (Le.cons rfl (Le.nilapp (Le.cons rfl (Le.cons rfl (Le.nil _))))), hR.sub (Ex.nilapp (by repeat (first | with_reducible exact Ex.refl | (with_reducible apply Ex.take; · repeat (first | with_reducible exact Pk.here | with_reducible apply Pk.there)) | with_reducible apply Ex.drop)))⟩
          · omega
          · omega
        ·
          refine sA hS hR ((by first | exact Yld.indexH (sz := 1) (i) hS rfl rfl Try.underlying57 info23 (by assumption) rfl (by first | rfl | omega) (by omega) | exact Yld.indexL (sz := 1) (i) hS rfl rfl Try.underlying57 info23 (by repeat (first | with_reducible exact Pk.here | with_reducible apply Pk.there)) rfl (by first | rfl | omega) (by omega) | exact Yld.indexB (sz := 1) (i) hS rfl rfl Try.underlying57 info23 rfl (by first | rfl | omega) (by omega))) (by decide) ?_; clear hS; intro aa hS
          try have hi1 : i = 1 := by omega
          refine sA hS hR (Yld.load1 hS rfl Try.underlying23 rfl (Rd.rec0 (k := i) (xs := ([none, some ⟨bb101, 0, none⟩] : List (Option Addr))) (v := .pointer (some ⟨bb101, 0, none⟩)) (by repeat (first | with_reducible exact Pk.here | with_reducible apply Pk.there)) (by intro _; rfl) (by show i < 2; omega) (by simp only [hi1]; rfl))) (by decide) ?_; clear hS; intro aa hS
          refine sA hS hR (Yld.assign hS rfl) (by decide) ?_; clear hS; intro aa hS
          refine wpList_nil ?_
          refine hK651 _ _ ?_
          refine wp_seq_k ?_; intro K657 hK657
          refine wp_region_lit ?_
          refine sA hS hR (Yld.move hS rfl) (by decide) ?_; clear hS; intro aa hS
          refine sB (Bcall hS rfl Try.call19 (lrSee_z (i := 0) (hR.pk (r := blk bb101 _ _) (by repeat (first | with_reducible exact Pk.here | with_reducible apply Pk.there)))) (by decide) ?_); clear hS; intro aa ww vv hS hp
          clear hR
          obtain ⟨rfl, hR⟩ := hp
          refine sA hS hR (Yld.move hS rfl) (by decide) ?_; clear hS; intro aa hS
          refine sA hS hR (Yld.extract hS rfl rfl) (by decide) ?_; clear hS; intro aa hS
          refine sA hS hR (Yld.extract hS rfl rfl) (by decide) ?_; clear hS; intro aa hS
          refine sA hS hR (Yld.assign hS rfl) (by decide) ?_; clear hS; intro aa hS
          refine sA hS hR (Yld.assign hS rfl) (by decide) ?_; clear hS; intro aa hS
          refine wpList_nil ?_
          refine hK657 _ _ ?_
          refine wp_seq_k ?_; intro K658 hK658
          refine wp_region_lit ?_
          refine sA hS hR (Yld.move hS rfl) (by decide) ?_; clear hS; intro aa hS
          refine sB (Bcall hS rfl Try.call12 (lrOldest_z  (hR.pk (r := blk bb101 _ _) (by repeat (first | with_reducible exact Pk.here | with_reducible apply Pk.there)))) (by decide) ?_); clear hS; intro aa ww vv hS hp
          clear hR
          obtain ⟨rfl, hR⟩ := hp
          refine sA hS hR (Yld.move hS rfl) (by decide) ?_; clear hS; intro aa hS
          refine sA hS hR (Yld.extract hS rfl rfl) (by decide) ?_; clear hS; intro aa hS
          refine sA hS hR (Yld.extract hS rfl rfl) (by decide) ?_; clear hS; intro aa hS
          replace hS := hS.sayB (t := 117) false rfl (by rfl)
          refine sA hS hR (Yld.assign hS rfl) (by decide) ?_; clear hS; intro aa hS
          refine sA hS hR (Yld.assign hS rfl) (by decide) ?_; clear hS; intro aa hS
          refine wpList_nil ?_
          refine hK658 _ _ ?_
          refine wp_seq_k ?_; intro K659 hK659
          refine wp_region_lit ?_
          refine sA hS hR (Yld.move hS rfl) (by decide) ?_; clear hS; intro aa hS
          refine sB (Bcall hS rfl Try.call26 (lrNewest_z  (hR.pk (r := blk bb101 _ _) (by repeat (first | with_reducible exact Pk.here | with_reducible apply Pk.there)))) (by decide) ?_); clear hS; intro aa ww vv hS hp
          clear hR
          obtain ⟨rfl, hR⟩ := hp
          refine sA hS hR (Yld.move hS rfl) (by decide) ?_; clear hS; intro aa hS
          refine sA hS hR (Yld.extract hS rfl rfl) (by decide) ?_; clear hS; intro aa hS
          refine sA hS hR (Yld.extract hS rfl rfl) (by decide) ?_; clear hS; intro aa hS
          replace hS := hS.sayB (t := 122) false rfl (by rfl)
          refine sA hS hR (Yld.assign hS rfl) (by decide) ?_; clear hS; intro aa hS
          refine sA hS hR (Yld.assign hS rfl) (by decide) ?_; clear hS; intro aa hS
          refine wpList_nil ?_
          refine hK659 _ _ ?_
          refine wp_seq_k ?_; intro K660 hK660
          refine wp_region_lit ?_
          refine sA hS hR (Yld.move hS rfl) (by decide) ?_; clear hS; intro aa hS
          refine sB (Bcall hS rfl Try.call20 (lrWhen_z (i := 0) (hR.pk (r := blk bb101 _ _) (by repeat (first | with_reducible exact Pk.here | with_reducible apply Pk.there)))) (by decide) ?_); clear hS; intro aa ww vv hS hp
          clear hR
          obtain ⟨rfl, hR⟩ := hp
          refine sA hS hR (Yld.move hS rfl) (by decide) ?_; clear hS; intro aa hS
          refine sA hS hR (Yld.extract hS rfl rfl) (by decide) ?_; clear hS; intro aa hS
          refine sA hS hR (Yld.extract hS rfl rfl) (by decide) ?_; clear hS; intro aa hS
          replace hS := hS.sayB (t := 127) false rfl (by rfl)
          refine sA hS hR (Yld.assign hS rfl) (by decide) ?_; clear hS; intro aa hS
          refine sA hS hR (Yld.assign hS rfl) (by decide) ?_; clear hS; intro aa hS
          refine wpList_nil ?_
          refine hK660 _ _ ?_
          refine wp_seq_k ?_; intro K661 hK661
          refine wp_region_lit ?_
          refine sA hS hR (Yld.move hS rfl) (by decide) ?_; clear hS; intro aa hS
          refine sA hS hR (Yld.neq hS rfl rfl) (by decide) ?_; clear hS; intro aa hS
          replace hS := hS.sayB (t := 129) false rfl (by decide)
          refine sA hS hR (Yld.move hS rfl) (by decide) ?_; clear hS; intro aa hS
          refine sAg hS hR rfl rfl (Yld.move hS rfl) (by decide) ?_; clear hS; intro aa hS
          refine sBg hS rfl rfl (Bcall hS rfl Try.call13 (lrOut_z (i := 0) (hR.pk (r := blk bb101 _ _) (by repeat (first | with_reducible exact Pk.here | with_reducible apply Pk.there)))) (by decide) ?_); clear hS; intro aa ww vv hS hp
          clear hR
          obtain ⟨rfl, hR⟩ := hp
          refine sAg hS hR rfl rfl (Yld.move hS rfl) (by decide) ?_; clear hS; intro aa hS
          refine sAg hS hR rfl rfl (Yld.neq hS rfl rfl) (by decide) ?_; clear hS; intro aa hS
          replace hS := hS.sayB (t := 134) false rfl (by decide)
          refine sA hS hR (Yld.pickF hS rfl rfl) (by decide) ?_; clear hS; intro aa hS
          refine sA hS hR (Yld.move hS rfl) (by decide) ?_; clear hS; intro aa hS
          refine sAg hS hR rfl rfl (Yld.move hS rfl) (by decide) ?_; clear hS; intro aa hS
          refine sA hS hR (Yld.pickF hS rfl rfl) (by decide) ?_; clear hS; intro aa hS
          refine sA hS hR (Yld.move hS rfl) (by decide) ?_; clear hS; intro aa hS
          refine sAg hS hR rfl rfl (Yld.move hS rfl) (by decide) ?_; clear hS; intro aa hS
          refine sA hS hR (Yld.pickF hS rfl rfl) (by decide) ?_; clear hS; intro aa hS
          refine sA hS hR (Yld.move hS rfl) (by decide) ?_; clear hS; intro aa hS
          refine sAg hS hR rfl rfl (Yld.move hS rfl) (by decide) ?_; clear hS; intro aa hS
          refine sA hS hR (Yld.pickF hS rfl rfl) (by decide) ?_; clear hS; intro aa hS
          refine sA hS hR (Yld.move hS rfl) (by decide) ?_; clear hS; intro aa hS
          refine sAg hS hR rfl rfl (Yld.move hS rfl) (by decide) ?_; clear hS; intro aa hS
          refine sBg hS rfl rfl (Bcall hS rfl Try.call18 (lrNow_z  (hR.pk (r := blk bb101 _ _) (by repeat (first | with_reducible exact Pk.here | with_reducible apply Pk.there)))) (by decide) ?_); clear hS; intro aa ww vv hS hp
          clear hR
          obtain ⟨rfl, hR⟩ := hp
          refine sAg hS hR rfl rfl (Yld.move hS rfl) (by decide) ?_; clear hS; intro aa hS
          refine sBg hS rfl rfl (Bcall hS rfl Try.call15 (lrLen_z  (hR.pk (r := blk bb101 _ _) (by repeat (first | with_reducible exact Pk.here | with_reducible apply Pk.there)))) (by decide) ?_); clear hS; intro aa ww vv hS hp
          clear hR
          obtain ⟨rfl, hR⟩ := hp
          refine sAg hS hR rfl rfl ((by first | exact Yld.add64 hS rfl rfl (by omega) | exact Yld.add hS rfl rfl)) (by decide) ?_; clear hS; intro aa hS
          refine sAg hS hR rfl rfl (Yld.move hS rfl) (by decide) ?_; clear hS; intro aa hS
          refine sBg hS rfl rfl (Bcall hS rfl Try.call11 (lrAll_z  (hR.pk (r := blk bb101 _ _) (by repeat (first | with_reducible exact Pk.here | with_reducible apply Pk.there)))) (by decide) ?_); clear hS; intro aa ww vv hS hp
          clear hR
          obtain ⟨rfl, hR⟩ := hp
          refine sAg hS hR rfl rfl (Yld.len hS rfl Try.underlying27) (by decide) ?_; clear hS; intro aa hS
          refine sAg hS hR rfl rfl ((by first | exact Yld.add64 hS rfl rfl (by omega) | exact Yld.add hS rfl rfl)) (by decide) ?_; clear hS; intro aa hS
          refine sAg hS hR rfl rfl (Yld.move hS rfl) (by decide) ?_; clear hS; intro aa hS
          refine sBg hS rfl rfl (Bcall hS rfl Try.call17 (lrSince_z (i := -1) (hR.pk (r := blk bb101 _ _) (by repeat (first | with_reducible exact Pk.here | with_reducible apply Pk.there)))) (by decide) ?_); clear hS; intro aa ww vv hS hp
          clear hR
          obtain ⟨rfl, hR⟩ := hp
          refine sAg hS hR rfl rfl (Yld.len hS rfl Try.underlying27) (by decide) ?_; clear hS; intro aa hS
          refine sAg hS hR rfl rfl ((by first | exact Yld.add64 hS rfl rfl (by omega) | exact Yld.add hS rfl rfl)) (by decide) ?_; clear hS; intro aa hS
          refine sAg hS hR rfl rfl (Yld.neq hS rfl rfl) (by decide) ?_; clear hS; intro aa hS
          replace hS := hS.sayB (t := 159) false rfl (by decide)
          refine sA hS hR (Yld.pickF hS rfl rfl) (by decide) ?_; clear hS; intro aa hS
          refine wpList_nil ?_
          refine hK661 _ _ ?_
          refine condF hS rfl ?_
          refine wp_skip ?_
          refine hK650 _ _ ?_
          refine wp_region_lit ?_
          refine sA hS hR ((by first | exact Yld.add64 hS rfl rfl (by omega) | exact Yld.add hS rfl rfl)) (by decide) ?_; clear hS; intro aa hS
          refine sA hS hR (Yld.move hS rfl) (by decide) ?_; clear hS; intro aa hS
          refine wpList_nil ?_
          
          refine ⟨i + 1, ?_, ?_, hS.le (Le.cons rfl (Le.nilapp (Le.cons rfl (Le.cons rfl (Le.nil _))))), hR.sub (Ex.nilapp (by repeat (first | with_reducible exact Ex.refl | (with_reducible apply Ex.take; · repeat (first | with_reducible exact Pk.here | with_reducible apply Pk.there)) | with_reducible apply Ex.drop)))⟩
          · omega
          · omega
      · intro hg hS
        refine condF hS rfl ?_
        refine wp_exit ?_
        refine hK645 _ _ ?_
        refine wp_seq_k ?_; intro K662 hK662
        refine wp_region_lit ?_
        refine sB (Bcall hS rfl Try.call16 (awake_ok hR) (by decide) ?_); clear hS; intro aa ww vv hS hp
        clear hR
        obtain ⟨rfl, hR⟩ := hp
        refine sA hS hR (Yld.assign hS rfl) (by decide) ?_; clear hS; intro aa hS
        refine wpList_nil ?_
        refine hK662 _ _ ?_
        refine wp_ret ?_
        repeat (first | with_reducible refine thenR ?_ | with_reducible refine blockR ?_ | with_reducible refine scopeR ?_)
        refine ret1 (fn := Try.f7) (e := .ret) (.inl rfl) Try.results7 hS hR ⟨_, (.tmp rfl), ?_⟩
        exact ⟨rfl, (hR.sub (by repeat (first | with_reducible exact Ex.refl | (with_reducible apply Ex.take; · repeat (first | with_reducible exact Pk.here | with_reducible apply Pk.there)) | with_reducible apply Ex.drop)))⟩
end Go.Proofs.Ytojeibjlkbffcaa.Sx
