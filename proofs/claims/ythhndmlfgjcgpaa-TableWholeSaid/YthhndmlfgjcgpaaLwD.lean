/-
 
-/
import Derived.Test.YthhndmlfgjcgpaaLwA
import Derived.Test.YthhndmlfgjcgpaaPu
namespace Go.Proofs.Ythhndmlfgjcgpaa.Sx
open Go
set_option linter.unusedVariables false
set_option linter.unusedSimpArgs false

theorem bls138_3_0_1_2 (x0 : Int) (x1 : Int) (x2 : Int) (w : World) : (Instr.buildSlice 138 3 [(0, .int .u8 x0), (1, .int .u8 x1), (2, .int .u8 x2)].toArray).run Try.prog w = .ok (.slice (some ⟨w.heap.size, 0, none⟩) 3 3) (w.alloc (.cells ([.int .u8 x0, .int .u8 x1, .int .u8 x2] : List Value).toArray 5)) := by kernel_rfl

set_option maxHeartbeats 4000000 in
set_option maxRecDepth 20000 in
theorem Named_ok {W : World} {q : Option Addr} {n c c2 m : Nat} {xs : List (List Int)} (A1 : ArgS W [.u32] q n c xs) {l : List HP} {w : World} (hR : Sep (old W :: l) w) (hm : m ≤ n) (hm2 : m ≤ 60) : CallR Try.prog 34 [.slice q m c2] w (fun v w' => ∃ (ks : List Ky) (r : Option Addr) (rc : Nat), v = .slice r ks.length rc ∧ ks.length = m ∧ (∀ k ∈ ks, WfK k) ∧ Sep (sls r ks.length rc 35 5 (ks.flatMap eK) :: old W :: l) w') := by
 refine enter Try.func34 rfl Try.ntmps34 (Nat.le_of_ble_eq_true rfl) ?_; intro aa hS
 refine wp_seq_k ?_; intro K641 hK641
 refine wp_region_lit ?_
 refine sA hS hR (Yld.assign hS rfl) (by decide) ?_; clear hS; intro aa hS
 refine wpList_nil ?_
 refine hK641 _ _ ?_
 refine wp_seq_k ?_; intro K642 hK642
 refine wp_region_lit ?_
 refine sA hS hR (Yld.assign hS rfl) (by decide) ?_; clear hS; intro aa hS
 refine wpList_nil ?_
 refine hK642 _ _ ?_
 refine wp_seq_k ?_; intro K643 hK643
 refine wp_seq_k ?_; intro K644 hK644
 refine wp_region_lit ?_
 refine sA hS hR (Yld.move hS rfl) (by decide) ?_; clear hS; intro aa hS
 refine sA hS hR (Yld.len hS rfl Try.underlying22) (by decide) ?_; clear hS; intro aa hS
 refine sA hS hR (Yld.move hS rfl) (by decide) ?_; clear hS; intro aa hS
 refine wpList_nil ?_
 refine hK644 _ _ ?_
 refine wp_block ?_
 replace hR := hR.slsNil (T := 35) (sz := 5)
 replace hR := hR.pk (r := sls none 0 0 35 5 []) pkQ
 refine loopI (X := Nat × List Ky × Option Addr × Nat) [(2, _), (6, _), (7, _)] (fun x => [(3, .slice x.2.2.1 x.2.1.length x.2.2.2), (8, .int .i64 (x.1 : Int))]) (fun x => [sls x.2.2.1 x.2.1.length x.2.2.2 35 5 (x.2.1.flatMap eK)]) _ (fun x => x.1 ≤ m ∧ x.2.1.length = x.1 ∧ ∀ k ∈ x.2.1, WfK k) (fun x => m - x.1) (0, [], none, 0) ⟨Nat.zero_le _, rfl, by simp⟩ (hS.le (Le.cons rfl (Le.cons rfl (Le.nilapp (Le.cons rfl (Le.cons rfl (Le.cons rfl (Le.nil _)))))))) hR ?_
 clear hS hR; rintro ⟨k, ks, r0, c0⟩ aa ww hI hS hR; dsimp only [List.cons_append, List.nil_append] at hI hS hR
 refine wp_seq_k ?_; intro K646 hK646
 refine wp_region_lit ?_
 refine sA hS hR (Yld.lss hS rfl rfl) (by decide) ?_; clear hS; intro aa hS
 refine wpList_nil ?_
 refine hK646 _ _ ?_
 refine wp_seq_k ?_; intro K647 hK647
 refine hS.splitB (t := 9) rfl ?_ ?_ <;> clear hS
 ·
  intro hg hS
  refine condT hS rfl ?_
  refine wp_skip ?_
  refine hK647 _ _ ?_
  refine wp_seq_k ?_; intro K648 hK648
  refine wp_block ?_
  refine wp_seq_k ?_; intro K649 hK649
  refine wp_region_lit ?_
  obtain ⟨ba, ia, ns, hq, hx, hl, hw, hc⟩ := A1.at (k := k) (by omega)
  obtain ⟨s0, rfl⟩ := len1 hl
  subst hq
  have hs0 : 0 ≤ s0 ∧ s0 ≤ 4294967295 := hw.1
  refine sA hS hR ((by first | exact Yld.indexL (sz := 1) _ hS rfl rfl Try.underlying22 info32 pkQ rfl rfl (by omega) | exact Yld.indexB (sz := 1) _ hS rfl rfl Try.underlying22 info32 rfl rfl (by omega) | exact Yld.indexSlice hS rfl rfl Try.underlying22 info32 (by omega) (by omega))) (by decide) ?_; clear hS; intro aa hS
  refine sA hS hR (Yld.load1 hS rfl Try.underlying32 rfl (Rds.rd (Rds.at (Rds.old pkQ hc) (by rfl)) (by rfl))) (by decide) ?_; clear hS; intro aa hS
  refine sA hS hR (Yld.assign hS rfl) (by decide) ?_; clear hS; intro aa hS
  refine wpList_nil ?_
  refine hK649 _ _ ?_
  refine wp_region_lit ?_
  refine sA hS hR (Yld.move hS rfl) (by decide) ?_; clear hS; intro aa hS
  refine sB (BbuildSlice hS hR rfl (bls138_3_0_1_2 _ _ _) (by decide) ?_); clear hS hR; intro aa ww bb13 hS hR
  refine sA hS hR (Yld.move hS rfl) (by decide) ?_; clear hS; intro aa hS
  refine sA hS hR ((by first | exact Yld.rem64 hS rfl rfl (by omega) | exact Yld.rem hS rfl rfl (by omega))) (by decide) ?_; clear hS; intro aa hS
  obtain ⟨k3, hk3, hk3l⟩ := emod_nat (n := s0) (d := 3) (m := 3) rfl (by omega)
  replace hS := hS.say (t := 15) (.int .u32 (k3 : Int)) rfl (by rw [hk3])
  obtain ⟨pv, hpv, hpb⟩ : ∃ pv : Int, ([.int .u8 6, .int .u8 17, .int .u8 1] : List Value)[k3]? = some (.int .u8 pv) ∧ 0 ≤ pv ∧ pv ≤ 255 := by
   obtain rfl | rfl | rfl : k3 = 0 ∨ k3 = 1 ∨ k3 = 2 := by omega
   ·
    exact ⟨6, rfl, by omega⟩
   ·
    exact ⟨17, rfl, by omega⟩
   ·
    exact ⟨1, rfl, by omega⟩
  refine sA hS hR ((by first | exact Yld.indexL (sz := 1) (k3) hS rfl rfl Try.underlying138 info5 pkQ rfl (by first | rfl | omega) (by omega) | exact Yld.indexB (sz := 1) (k3) hS rfl rfl Try.underlying138 info5 rfl (by first | rfl | omega) (by omega))) (by decide) ?_; clear hS; intro aa hS
  refine sA hS hR (Yld.load1 hS rfl Try.underlying5 rfl (Rd.at (Rd.blk pkQ hpv) (by omega))) (by decide) ?_; clear hS; intro aa hS
  refine sA hS hR (Yld.move hS rfl) (by decide) ?_; clear hS; intro aa hS
  refine sA hS hR ((by first | exact Yld.to (Yld.quo hS rfl rfl (by omega)) (congrArg (Value.int .u32) (IntWalk.u32_quo _ _ (by omega))) | exact Yld.quo hS rfl rfl (by omega))) (by decide) ?_; clear hS; intro aa hS
  refine sA hS hR ((by first | exact Yld.rem64 hS rfl rfl (by omega) | exact Yld.rem hS rfl rfl (by omega))) (by decide) ?_; clear hS; intro aa hS
  refine sA hS hR (Yld.or hS rfl rfl) (by decide) ?_; clear hS; intro aa hS
  refine sA hS hR (Yld.move hS rfl) (by decide) ?_; clear hS; intro aa hS
  refine sA hS hR ((by first | exact Yld.to (Yld.quo hS rfl rfl (by omega)) (congrArg (Value.int .u32) (IntWalk.u32_quo _ _ (by omega))) | exact Yld.quo hS rfl rfl (by omega))) (by decide) ?_; clear hS; intro aa hS
  refine sA hS hR ((by first | exact Yld.rem64 hS rfl rfl (by omega) | exact Yld.rem hS rfl rfl (by omega))) (by decide) ?_; clear hS; intro aa hS
  refine sA hS hR (Yld.shlL 8 256 hS rfl rfl rfl (by decide) (by decide)) (by decide) ?_; clear hS; intro aa hS
  refine sA hS hR (Yld.or hS rfl rfl) (by decide) ?_; clear hS; intro aa hS
  refine sA hS hR (Yld.move hS rfl) (by decide) ?_; clear hS; intro aa hS
  refine sA hS hR ((by first | exact Yld.to (Yld.quo hS rfl rfl (by omega)) (congrArg (Value.int .u32) (IntWalk.u32_quo _ _ (by omega))) | exact Yld.quo hS rfl rfl (by omega))) (by decide) ?_; clear hS; intro aa hS
  refine sA hS hR ((by first | exact Yld.rem64 hS rfl rfl (by omega) | exact Yld.rem hS rfl rfl (by omega))) (by decide) ?_; clear hS; intro aa hS
  refine sA hS hR (Yld.or hS rfl rfl) (by decide) ?_; clear hS; intro aa hS
  refine sA hS hR (Yld.move hS rfl) (by decide) ?_; clear hS; intro aa hS
  refine sA hS hR ((by first | exact Yld.to (Yld.quo hS rfl rfl (by omega)) (congrArg (Value.int .u32) (IntWalk.u32_quo _ _ (by omega))) | exact Yld.quo hS rfl rfl (by omega))) (by decide) ?_; clear hS; intro aa hS
  refine sA hS hR ((by first | exact Yld.rem64 hS rfl rfl (by omega) | exact Yld.rem hS rfl rfl (by omega))) (by decide) ?_; clear hS; intro aa hS
  refine sA hS hR ((by first | exact Yld.to (Yld.mul hS rfl rfl) (congrArg (Value.int .u32) (IntWalk.u32_in _ (by omega))) | exact Yld.mul hS rfl rfl)) (by decide) ?_; clear hS; intro aa hS
  refine sA hS hR ((by first | exact Yld.to (Yld.convInt hS rfl rfl Try.underlying33) (congrArg (Value.int .u16) (IntWalk.u16_in _ (by omega))) | exact Yld.convInt hS rfl rfl Try.underlying33)) (by decide) ?_; clear hS; intro aa hS
  refine sA hS hR (Yld.move hS rfl) (by decide) ?_; clear hS; intro aa hS
  refine sA hS hR ((by first | exact Yld.to (Yld.quo hS rfl rfl (by omega)) (congrArg (Value.int .u32) (IntWalk.u32_quo _ _ (by omega))) | exact Yld.quo hS rfl rfl (by omega))) (by decide) ?_; clear hS; intro aa hS
  refine sA hS hR ((by first | exact Yld.rem64 hS rfl rfl (by omega) | exact Yld.rem hS rfl rfl (by omega))) (by decide) ?_; clear hS; intro aa hS
  refine sA hS hR ((by first | exact Yld.to (Yld.convInt hS rfl rfl Try.underlying33) (congrArg (Value.int .u16) (IntWalk.u16_in _ (by omega))) | exact Yld.convInt hS rfl rfl Try.underlying33)) (by decide) ?_; clear hS; intro aa hS
  refine sA hS hR (Yld.build hS rfl (bld35_0_1_2_3_4 _ _ _ _ _)) (by decide) ?_; clear hS; intro aa hS
  refine sB (BbuildSlice hS hR rfl (bls24_1_0 _ _ _ _ _) (by decide) ?_); clear hS hR; intro aa ww bb41 hS hR
  refine sB (BappendR (sz := 5) hS hR rfl rfl Try.underlying24 info35 rfl rfl (by rfl) pkQ (XC.one ((_, _, _, _, _)) pkQ (by rfl) rfl) (by intro _; rfl) (by show (_ + _) * 16 ≤ _; first | omega | (simp only [List.length_take, List.length_append, List.length_drop, List.length_cons, List.length_nil, List.length_map]; omega)) (by first | omega | (simp only [List.length_take, List.length_append, List.length_drop, List.length_cons, List.length_nil, List.length_map]; omega)) (by first | rfl | (simp; done) | (simp; omega)) (by decide) ?_); clear hS hR; intro aa ww r42 c42 hS hR
  refine sA hS hR (Yld.assign hS rfl) (by decide) ?_; clear hS; intro aa hS
  refine wpList_nil ?_
  refine hK648 _ _ ?_
  refine wp_region_lit ?_
  refine sA hS hR ((by first | exact Yld.add64 hS rfl rfl (by omega) | exact Yld.add hS rfl rfl)) (by decide) ?_; clear hS; intro aa hS
  refine sA hS hR (Yld.move hS rfl) (by decide) ?_; clear hS; intro aa hS
  refine wpList_nil ?_
  
  refine ⟨(k + 1, _, _, _), ?_, ?_, hS.le (Le.cons rfl (Le.cons rfl (Le.nilapp (Le.cons rfl (Le.cons rfl (Le.cons rfl (Le.nil _))))))), hR.sub (Ex.take pkQ (Ex.nilapp exQ))⟩
  ·
   dsimp only; refine ⟨by omega, by rw [List.length_append]; simp; omega, fun e he => ?_⟩; rcases List.mem_append.1 he with h8 | h8; exact hI.2.2 e h8; simp only [List.mem_singleton] at h8; subst h8; exact ⟨by dsimp only; omega, bits32 (op := .or), bits32 (op := .or), by dsimp only; omega, by dsimp only; omega⟩
  ·
   dsimp only; omega
 ·
  intro hg hS
  obtain rfl : m = k := by omega
  refine condF hS rfl ?_
  refine wp_exit ?_
  refine hK643 _ _ ?_
  refine wp_seq_k ?_; intro K650 hK650
  refine wp_region_lit ?_
  refine sA hS hR (Yld.move hS rfl) (by decide) ?_; clear hS; intro aa hS
  refine sA hS hR (Yld.assign hS rfl) (by decide) ?_; clear hS; intro aa hS
  refine wpList_nil ?_
  refine hK650 _ _ ?_
  refine wp_ret ?_
  repeat (first | with_reducible refine thenR ?_ | with_reducible refine blockR ?_ | with_reducible refine scopeR ?_)
  refine ret1 (fn := Try.f34) (e := .ret) (.inl rfl) Try.results34 hS hR ⟨_, (.tmp rfl), ?_⟩
  exact ⟨_, _, _, rfl, hI.2.1, hI.2.2, (hR.sub exQ)⟩
set_option maxHeartbeats 4000000 in
set_option maxRecDepth 20000 in
theorem filled_ok {W : World} {q : Option Addr} {n c c2 m S : Nat} {xs : List (List Int)} (A1 : ArgS W [.u32] q n c xs) {l : List HP} {w : World} (hm : m ≤ n) (hm2 : m ≤ 60) (h1 : 1 ≤ S) (h2 : S ≤ 4096) (hR : Sep (old W :: l) w) : CallR Try.prog 10 [.slice q m c2, .int .i64 (S : Int)] w (fun v w' => ∃ b T ks r c, v = .tuple [.pointer (some ⟨b, 0, none⟩), .slice r (ks : List Ky).length c, .bool true].toArray ∧ FilI S 3 T ks ∧ ks.length ≤ m ∧ Sep (tableA tt b S 3 T :: sls r ks.length c 35 5 (ks.flatMap eK) :: old W :: l) w') := by
 refine enter Try.func10 rfl Try.ntmps10 (Nat.le_of_ble_eq_true rfl) ?_; intro aa hS
 refine wp_seq_k ?_; intro K651 hK651
 refine wp_region_lit ?_
 refine sA hS hR (Yld.assign hS rfl) (by decide) ?_; clear hS; intro aa hS
 refine sA hS hR (Yld.assign hS rfl) (by decide) ?_; clear hS; intro aa hS
 refine sA hS hR (Yld.assign hS rfl) (by decide) ?_; clear hS; intro aa hS
 refine wpList_nil ?_
 refine hK651 _ _ ?_
 refine wp_seq_k ?_; intro K652 hK652
 refine wp_region_lit ?_
 refine sA hS hR (Yld.move hS rfl) (by decide) ?_; clear hS; intro aa hS
 refine sB (Bcall hS rfl Try.call17 (TbNew_ok (S := S) (n := 3) hR (by omega) (by omega) (by omega) (by omega)) (by decide) ?_); clear hS; intro aa ww vv hS hp
 clear hR
 obtain ⟨b, rfl, hR⟩ := hp
 refine sA hS hR (Yld.move hS rfl) (by decide) ?_; clear hS; intro aa hS
 refine sA hS hR (Yld.extract hS rfl rfl) (by decide) ?_; clear hS; intro aa hS
 refine sA hS hR (Yld.extract hS rfl rfl) (by decide) ?_; clear hS; intro aa hS
 refine sA hS hR (Yld.assign hS rfl) (by decide) ?_; clear hS; intro aa hS
 refine sA hS hR (Yld.assign hS rfl) (by decide) ?_; clear hS; intro aa hS
 refine wpList_nil ?_
 refine hK652 _ _ ?_
 refine wp_seq_k ?_; intro K653 hK653
 refine wp_seq_k ?_; intro K654 hK654
 refine wp_region_lit ?_
 refine sA hS hR (Yld.move hS rfl) (by decide) ?_; clear hS; intro aa hS
 refine sA hS hR (Yld.neq hS rfl rfl) (by decide) ?_; clear hS; intro aa hS
 replace hS := hS.sayB (t := 20) false rfl (by simp)
 refine sA hS hR (Yld.move hS rfl) (by decide) ?_; clear hS; intro aa hS
 refine sAg hS hR rfl rfl (Yld.move hS rfl) (by decide) ?_; clear hS; intro aa hS
 refine sAg hS hR rfl rfl (Yld.eqlNil hS rfl rfl Try.underlying23) (by decide) ?_; clear hS; intro aa hS
 replace hS := hS.sayB (t := 23) false rfl (by rfl)
 refine sA hS hR (Yld.pickF hS rfl rfl) (by decide) ?_; clear hS; intro aa hS
 refine wpList_nil ?_
 refine hK654 _ _ ?_
 refine condF hS rfl ?_
 refine wp_skip ?_
 refine hK653 _ _ ?_
 refine wp_seq_k ?_; intro K655 hK655
 refine wp_region_lit ?_
 refine sA hS hR (Yld.assign hS rfl) (by decide) ?_; clear hS; intro aa hS
 refine wpList_nil ?_
 refine hK655 _ _ ?_
 refine wp_seq_k ?_; intro K656 hK656
 refine wp_seq_k ?_; intro K657 hK657
 refine wp_region_lit ?_
 refine sA hS hR (Yld.move hS rfl) (by decide) ?_; clear hS; intro aa hS
 refine sB (Bcall hS rfl Try.call34 (Named_ok A1 (hR.pk (r := old W) pkQ) (m := m) hm hm2) (by decide) ?_); clear hS; intro aa ww vv hS hp
 clear hR
 obtain ⟨js, rj, rjc, rfl, hjl, hjw, hR⟩ := hp
 refine sA hS hR (Yld.len hS rfl Try.underlying24) (by decide) ?_; clear hS; intro aa hS
 refine sA hS hR (Yld.move hS rfl) (by decide) ?_; clear hS; intro aa hS
 refine wpList_nil ?_
 refine hK657 _ _ ?_
 refine wp_block ?_
 replace hR := hR.slsNil (T := 35) (sz := 5)
 replace hR := hR.pk (r := sls none 0 0 35 5 []) pkQ
 replace hR := hR.pk (r := tableA tt b S 3 { F := [], A := Ar.new S }) pkQ
 refine loopI (X := Nat × Tb × List Ky × Option Addr × Nat) [(7, _), (26, _), (27, _)] (fun x => [(9, .slice x.2.2.2.1 x.2.2.1.length x.2.2.2.2), (28, .int .i64 (x.1 : Int))]) (fun x => [tableA tt b S 3 x.2.1, sls x.2.2.2.1 x.2.2.1.length x.2.2.2.2 35 5 (x.2.2.1.flatMap eK)]) _ (fun x => x.1 ≤ js.length ∧ FilI S 3 x.2.1 x.2.2.1 ∧ x.2.2.1.length ≤ x.1) (fun x => js.length - x.1) (0, { F := [], A := Ar.new S }, [], none, 0) ⟨Nat.zero_le _, FilI.new h1 h2, Nat.le_refl _⟩ (hS.le (Le.cons rfl (Le.cons rfl (Le.nilapp (Le.cons rfl (Le.cons rfl (Le.cons rfl (Le.nil _)))))))) hR ?_
 clear hS hR; rintro ⟨i, T, ks, r0, c0⟩ aa ww hI hS hR; dsimp only [List.cons_append, List.nil_append] at hI hS hR
 refine wp_seq_k ?_; intro K659 hK659
 refine wp_region_lit ?_
 refine sA hS hR (Yld.lss hS rfl rfl) (by decide) ?_; clear hS; intro aa hS
 refine wpList_nil ?_
 refine hK659 _ _ ?_
 refine wp_seq_k ?_; intro K660 hK660
 refine hS.splitB (t := 29) rfl ?_ ?_ <;> clear hS
 ·
  intro hg hS
  have hF := hI.2.1
  have hkl := hI.2.2
  refine condT hS rfl ?_
  refine wp_skip ?_
  refine hK660 _ _ ?_
  refine wp_seq_k ?_; intro K661 hK661
  refine wp_block ?_
  refine wp_seq_k ?_; intro K662 hK662
  refine wp_region_lit ?_
  refine sA hS hR (Yld.move hS rfl) (by decide) ?_; clear hS; intro aa hS
  refine sA hS hR ((by first | exact Yld.indexL (sz := 5) (i) hS rfl rfl Try.underlying24 info35 pkQ rfl (by first | rfl | omega) (by omega) | exact Yld.indexB (sz := 5) (i) hS rfl rfl Try.underlying24 info35 rfl (by first | rfl | omega) (by omega))) (by decide) ?_; clear hS; intro aa hS
  refine sA hS hR (Yld.loadAgg hS rfl Try.underlying35 rfl info35 (by first | exact Rds.cons (Rd.blk pkQ (by rfl)) (Rds.cons (Rd.blk pkQ (by rfl)) (Rds.cons (Rd.blk pkQ (by rfl)) (Rds.cons (Rd.blk pkQ (by rfl)) (Rds.cons (Rd.blk pkQ (by rfl)) (Rds.nil))))) | exact Rds.rec pkQ (by intro _; rfl) (by omega) | exact Rds.flat1 pkQ (by intro _; rfl) (by omega)) (by rfl)) (by decide) ?_; clear hS; intro aa hS
  obtain ⟨kj, kje⟩ : ∃ y : Ky, js[i] = y := ⟨_, rfl⟩
  have hkj : WfK kj := by rw [← kje]; exact hjw _ (List.getElem_mem _)
  replace hS := hS.say (t := 32) (vK kj) rfl (by rw [kje])
  refine sB (Balloc hS hR info35 (by rfl) (by rfl) (by decide) ?_); clear hS hR; intro aa ww bb11 hS hR
  refine sA hS hR (Yld.assign hS rfl) (by decide) ?_; clear hS; intro aa hS
  refine sB (Bstore hS hR rfl rfl (by rfl) info35 (by rfl) pkQ (by rfl) (Nat.le_of_ble_eq_true rfl) ?_); clear hR; intro ww hR
  refine wpList_nil ?_
  refine hK662 _ _ ?_
  refine wp_seq_k ?_; intro K663 hK663
  have tail663 : ∀ (kx : Ky) (hkx : WfK kx) (aa : Act) (ww : World), Has 61 aa [(7, .pointer (some ⟨b, 0, none⟩)), (9, .slice r0 ks.length c0), (10, .int .i64 (i : Int)), (11, .pointer (some ⟨bb11, 0, none⟩)), (26, .slice rj js.length rjc), (27, .int .i64 (js.length : Int)), (28, .int .i64 (i : Int))] → Sep (blk bb11 (eK kx) 35 :: tableA tt b S 3 T :: sls r0 ks.length c0 35 5 (ks.flatMap eK) :: sls rj js.length rjc 35 5 (js.flatMap eK) :: old W :: l) ww → K663 aa ww := by
   clear hS hR; intro kx hkx aa ww hS hR
   refine hK663 _ _ ?_
   refine wp_seq_k ?_; intro K664 hK664
   refine wp_region_lit ?_
   refine sA hS hR (Yld.move hS rfl) (by decide) ?_; clear hS; intro aa hS
   refine sA hS hR (Yld.loadAgg hS rfl Try.underlying35 rfl info35 (by first | exact Rds.cons (Rd.blk pkQ (by rfl)) (Rds.cons (Rd.blk pkQ (by rfl)) (Rds.cons (Rd.blk pkQ (by rfl)) (Rds.cons (Rd.blk pkQ (by rfl)) (Rds.cons (Rd.blk pkQ (by rfl)) (Rds.nil))))) | exact Rds.rec pkQ (by intro _; rfl) (by omega) | exact Rds.flat1 pkQ (by intro _; rfl) (by omega)) (by rfl)) (by decide) ?_; clear hS; intro aa hS
   refine sA hS hR (Yld.move hS rfl) (by decide) ?_; clear hS; intro aa hS
   refine sA hS hR ((by first | exact Yld.rem64 hS rfl rfl (by omega) | exact Yld.rem hS rfl rfl (by omega))) (by decide) ?_; clear hS; intro aa hS
   replace hS := hS.say (t := 42) (.int .i64 ((i % 3 : Nat) : Int)) rfl (by congr 1 <;> omega)
   refine sB (Bcall hS rfl Try.call18 (Add_ok (n := 3) (S := S) (k := kx) (i := ((i % 3 : Nat) : Int)) hkx (hR.pk (r := tableA _ b _ _ _) pkQ)) (by decide) ?_); clear hS; intro aa ww vv hS hp
   clear hR
   obtain ⟨rfl, hR⟩ := hp
   have hany := hF.any (k := kx) (i := i % 3) hkx (by omega)
   obtain ⟨ev, hev⟩ : ∃ y, (addR T 3 kx ((i % 3 : Nat) : Int)).2 = y := ⟨_, rfl⟩
   rw [hev] at hS hany
   refine sA hS hR (Yld.move hS rfl) (by decide) ?_; clear hS; intro aa hS
   refine sA hS hR (Yld.extract hS rfl rfl) (by decide) ?_; clear hS; intro aa hS
   refine sA hS hR (Yld.extract hS rfl rfl) (by decide) ?_; clear hS; intro aa hS
   refine sB (Balloc hS hR info29 (by rfl) (by rfl) (by decide) ?_); clear hS hR; intro aa ww bb12 hS hR
   refine sB (Bstore hS hR rfl rfl (by rfl) info29 (by rfl) pkQ (by rfl) (Nat.le_of_ble_eq_true rfl) ?_); clear hR; intro ww hR
   refine sA hS hR (Yld.assign hS rfl) (by decide) ?_; clear hS; intro aa hS
   refine wpList_nil ?_
   refine hK664 _ _ ?_
   refine wp_seq_k ?_; intro K665 hK665
   refine wp_region_lit ?_
   refine sA hS hR (Yld.move hS rfl) (by decide) ?_; clear hS; intro aa hS
   refine sA hS hR (Yld.eql hS rfl rfl) (by decide) ?_; clear hS; intro aa hS
   refine wpList_nil ?_
   refine hK665 _ _ ?_
   refine hS.splitB (t := 47) rfl ?_ ?_ <;> clear hS
   ·
    intro hg hS
    have hnw : FilI S 3 (addN T 3 kx ((i % 3 : Nat) : Int)) (ks ++ [kx]) := by
     rcases hany with h | h
     ·
      exact h.2
     ·
      omega
    refine condT hS rfl ?_
    refine wp_region_lit ?_
    refine sA hS hR (Yld.move hS rfl) (by decide) ?_; clear hS; intro aa hS
    refine sA hS hR (Yld.loadAgg hS rfl Try.underlying35 rfl info35 (by first | exact Rds.cons (Rd.blk pkQ (by rfl)) (Rds.cons (Rd.blk pkQ (by rfl)) (Rds.cons (Rd.blk pkQ (by rfl)) (Rds.cons (Rd.blk pkQ (by rfl)) (Rds.cons (Rd.blk pkQ (by rfl)) (Rds.nil))))) | exact Rds.rec pkQ (by intro _; rfl) (by omega) | exact Rds.flat1 pkQ (by intro _; rfl) (by omega)) (by rfl)) (by decide) ?_; clear hS; intro aa hS
    refine sB (BbuildSlice hS hR rfl (bls24_1_0 _ _ _ _ _) (by decide) ?_); clear hS hR; intro aa ww bb50 hS hR
    refine sB (BappendR (sz := 5) hS hR rfl rfl Try.underlying24 info35 rfl rfl (by rfl) pkQ (XC.one (kx) pkQ (by rfl) rfl) (by intro _; rfl) (by show (_ + _) * 16 ≤ _; first | omega | (simp only [List.length_take, List.length_append, List.length_drop, List.length_cons, List.length_nil, List.length_map]; omega)) (by first | omega | (simp only [List.length_take, List.length_append, List.length_drop, List.length_cons, List.length_nil, List.length_map]; omega)) (by first | rfl | (simp; done) | (simp; omega)) (by decide) ?_); clear hS hR; intro aa ww r51 c51 hS hR
    refine sA hS hR (Yld.assign hS rfl) (by decide) ?_; clear hS; intro aa hS
    refine wpList_nil ?_
    refine hK661 _ _ ?_
    refine wp_region_lit ?_
    refine sA hS hR ((by first | exact Yld.add64 hS rfl rfl (by omega) | exact Yld.add hS rfl rfl)) (by decide) ?_; clear hS; intro aa hS
    refine sA hS hR (Yld.move hS rfl) (by decide) ?_; clear hS; intro aa hS
    refine wpList_nil ?_
    
    refine ⟨(i + 1, _, _, _, _), ?_, ?_, hS.le (Le.cons rfl (Le.cons rfl (Le.nilapp (Le.cons rfl (Le.cons rfl (Le.cons rfl (Le.nil _))))))), hR.sub (Ex.take pkQ (Ex.take pkQ (Ex.nilapp exQ)))⟩
    ·
     dsimp only; first | exact ⟨by omega, hnw, by rw [List.length_append]; simp; omega⟩ | exact ⟨by omega, hF, by omega⟩
    ·
     dsimp only; omega
   ·
    intro hg hS
    have h416 : (ev = 4 ∨ ev = 160) ∧ addN T 3 kx ((i % 3 : Nat) : Int) = T := by
     rcases hany with h | h
     ·
      exact absurd h.1 (by omega)
     ·
      exact h
    rw [h416.2] at hR
    have h417 := h416.1
    refine condF hS rfl ?_
    refine wp_seq_k ?_; intro K666 hK666
    refine wp_region_lit ?_
    refine sA hS hR (Yld.move hS rfl) (by decide) ?_; clear hS; intro aa hS
    refine sA hS hR (Yld.neq hS rfl rfl) (by decide) ?_; clear hS; intro aa hS
    refine sA hS hR (Yld.move hS rfl) (by decide) ?_; clear hS; intro aa hS
    refine hS.splitB (t := 54) rfl ?_ ?_ <;> clear hS
    ·
     intro hg hS
     refine sAg hS hR rfl rfl (Yld.move hS rfl) (by decide) ?_; clear hS; intro aa hS
     refine sAg hS hR rfl rfl (Yld.neq hS rfl rfl) (by decide) ?_; clear hS; intro aa hS
     replace hS := hS.sayB (t := 56) false rfl (by exact decide_eq_false (by omega))
     refine sA hS hR (Yld.pickT hS rfl rfl) (by decide) ?_; clear hS; intro aa hS
     refine wpList_nil ?_
     refine hK666 _ _ ?_
     refine condF hS rfl ?_
     refine wp_skip ?_
     refine hK661 _ _ ?_
     refine wp_region_lit ?_
     refine sA hS hR ((by first | exact Yld.add64 hS rfl rfl (by omega) | exact Yld.add hS rfl rfl)) (by decide) ?_; clear hS; intro aa hS
     refine sA hS hR (Yld.move hS rfl) (by decide) ?_; clear hS; intro aa hS
     refine wpList_nil ?_
     
     refine ⟨(i + 1, _, _, _, _), ?_, ?_, hS.le (Le.cons rfl (Le.cons rfl (Le.nilapp (Le.cons rfl (Le.cons rfl (Le.cons rfl (Le.nil _))))))), hR.sub (Ex.take pkQ (Ex.take pkQ (Ex.nilapp exQ)))⟩
     ·
      dsimp only; first | exact ⟨by omega, hnw, by rw [List.length_append]; simp; omega⟩ | exact ⟨by omega, hF, by omega⟩
     ·
      dsimp only; omega
    ·
     intro hg hS
     refine sSkip hS rfl rfl rfl (by decide) ?_; clear hS; intro aa hS
     refine sSkip hS rfl rfl rfl (by decide) ?_; clear hS; intro aa hS
     refine sA hS hR (Yld.pickF hS rfl rfl) (by decide) ?_; clear hS; intro aa hS
     refine wpList_nil ?_
     refine hK666 _ _ ?_
     refine condF hS rfl ?_
     refine wp_skip ?_
     refine hK661 _ _ ?_
     refine wp_region_lit ?_
     refine sA hS hR ((by first | exact Yld.add64 hS rfl rfl (by omega) | exact Yld.add hS rfl rfl)) (by decide) ?_; clear hS; intro aa hS
     refine sA hS hR (Yld.move hS rfl) (by decide) ?_; clear hS; intro aa hS
     refine wpList_nil ?_
     
     refine ⟨(i + 1, _, _, _, _), ?_, ?_, hS.le (Le.cons rfl (Le.cons rfl (Le.nilapp (Le.cons rfl (Le.cons rfl (Le.cons rfl (Le.nil _))))))), hR.sub (Ex.take pkQ (Ex.take pkQ (Ex.nilapp exQ)))⟩
     ·
      dsimp only; first | exact ⟨by omega, hnw, by rw [List.length_append]; simp; omega⟩ | exact ⟨by omega, hF, by omega⟩
     ·
      dsimp only; omega
  refine wp_seq_k ?_; intro K667 hK667
  refine wp_region_lit ?_
  refine sA hS hR (Yld.move hS rfl) (by decide) ?_; clear hS; intro aa hS
  refine sA hS hR ((by first | exact Yld.rem64 hS rfl rfl (by omega) | exact Yld.rem hS rfl rfl (by omega))) (by decide) ?_; clear hS; intro aa hS
  refine sA hS hR (Yld.eql hS rfl rfl) (by decide) ?_; clear hS; intro aa hS
  refine wpList_nil ?_
  refine hK667 _ _ ?_
  refine hS.splitB (t := 35) rfl ?_ ?_ <;> clear hS
  ·
   intro hg hS
   refine condT hS rfl ?_
   refine wp_region_lit ?_
   refine sA hS hR (Yld.loadAgg hS rfl Try.underlying35 rfl info35 (by first | exact Rds.cons (Rd.blk pkQ (by rfl)) (Rds.cons (Rd.blk pkQ (by rfl)) (Rds.cons (Rd.blk pkQ (by rfl)) (Rds.cons (Rd.blk pkQ (by rfl)) (Rds.cons (Rd.blk pkQ (by rfl)) (Rds.nil))))) | exact Rds.rec pkQ (by intro _; rfl) (by omega) | exact Rds.flat1 pkQ (by intro _; rfl) (by omega)) (by rfl)) (by decide) ?_; clear hS; intro aa hS
   refine sB (Bcall hS rfl Try.call16 (Turn_ok (k := kj) hR) (by decide) ?_); clear hS; intro aa ww vv hS hp
   clear hR
   obtain ⟨rfl, hR⟩ := hp
   refine sB (Bstore hS hR rfl rfl (by rfl) info35 (by rfl) pkQ (by rfl) (Nat.le_of_ble_eq_true rfl) ?_); clear hR; intro ww hR
   refine wpList_nil ?_
   try dsimp only [lay, List.set] at hR
   exact tail663 (trn kj) (trn_wf hkj) _ _ (hS.le (Le.cons rfl (Le.cons rfl (Le.cons rfl (Le.cons rfl (Le.cons rfl (Le.cons rfl (Le.cons rfl (Le.nil _))))))))) (hR.sub exQ)
  ·
   intro hg hS
   refine condF hS rfl ?_
   refine wp_skip ?_
   try dsimp only [lay, List.set] at hR
   exact tail663 kj hkj _ _ (hS.le (Le.cons rfl (Le.cons rfl (Le.cons rfl (Le.cons rfl (Le.cons rfl (Le.cons rfl (Le.cons rfl (Le.nil _))))))))) (hR.sub exQ)
 ·
  intro hg hS
  have hF := hI.2.1
  have hkl := hI.2.2
  refine condF hS rfl ?_
  refine wp_exit ?_
  refine hK656 _ _ ?_
  refine wp_seq_k ?_; intro K668 hK668
  refine wp_region_lit ?_
  refine sA hS hR (Yld.move hS rfl) (by decide) ?_; clear hS; intro aa hS
  refine sA hS hR (Yld.move hS rfl) (by decide) ?_; clear hS; intro aa hS
  refine sA hS hR (Yld.assign hS rfl) (by decide) ?_; clear hS; intro aa hS
  refine sA hS hR (Yld.assign hS rfl) (by decide) ?_; clear hS; intro aa hS
  refine sA hS hR (Yld.assign hS rfl) (by decide) ?_; clear hS; intro aa hS
  refine wpList_nil ?_
  refine hK668 _ _ ?_
  refine wp_ret ?_
  repeat (first | with_reducible refine thenR ?_ | with_reducible refine blockR ?_ | with_reducible refine scopeR ?_)
  refine retN (fn := Try.f10) (e := .ret) (.inl rfl) Try.results10 hS hR ⟨_, .cons (.tmp rfl) (.cons (.tmp rfl) (.cons (.tmp rfl) (.nil))), rfl, ?_⟩
  exact ⟨b, T, ks, r0, c0, rfl, hF, by omega, (hR.sub exQ)⟩
end Go.Proofs.Ythhndmlfgjcgpaa.Sx
