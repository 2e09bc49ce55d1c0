/-
  
-/
import Derived.Test.YtmcfmhiadlkglaaLwC
import Derived.Test.YtmcfmhiadlkglaaPa
namespace Go.Proofs.Ytmcfmhiadlkglaa.Sx
open Go
set_option linter.unusedVariables false
set_option linter.unusedSimpArgs false

theorem bls24_1_0 (x0_0 : Int) (x0_1 : Int) (x0_2 : Int) (x0_3 : Int) (x0_4 : Int) (w : World) : (Instr.buildSlice 24 1 [(0, .agg [.int .u8 x0_0, .int .u32 x0_1, .int .u32 x0_2, .int .u16 x0_3, .int .u16 x0_4].toArray)].toArray).run Try.prog w = .ok (.slice (some ⟨w.heap.size, 0, none⟩) 1 1) (w.alloc (.cells ([.int .u8 x0_0, .int .u32 x0_1, .int .u32 x0_2, .int .u16 x0_3, .int .u16 x0_4] : List Value).toArray 34)) := by kernel_rfl
theorem bls73_3_0_1_2 (x0 : Int) (x1 : Int) (x2 : Int) (w : World) : (Instr.buildSlice 73 3 [(0, .int .u8 x0), (1, .int .u8 x1), (2, .int .u8 x2)].toArray).run Try.prog w = .ok (.slice (some ⟨w.heap.size, 0, none⟩) 3 3) (w.alloc (.cells ([.int .u8 x0, .int .u8 x1, .int .u8 x2] : List Value).toArray 5)) := by kernel_rfl

set_option maxHeartbeats 4000000 in
set_option maxRecDepth 20000 in
theorem Named_ok {W : World} {q : Option Addr} {n c c2 m : Nat} {xs : List (List Int)} (A1 : ArgS W [.u32] q n c xs) {l : List HP} {w : World} (hR : Sep (old W :: l) w) (hm : m ≤ n) (hm2 : m ≤ 60) : CallR Try.prog 10 [.slice q m c2] w (fun v w' => ∃ (ks : List Ky) (r : Option Addr) (rc : Nat), v = .slice r ks.length rc ∧ ks.length = m ∧ (∀ k ∈ ks, WfK k) ∧ Sep (sls r ks.length rc 34 5 (ks.flatMap eK) :: old W :: l) w') := by
  refine enter Try.func10 rfl Try.ntmps10 (Nat.le_of_ble_eq_true rfl) ?_; intro aa hS
  refine wp_seq_k ?_; intro K168 hK168
  refine wp_region_lit ?_
  refine sA hS hR (Yld.assign hS rfl) (by decide) ?_; clear hS; intro aa hS
  refine wpList_nil ?_
  refine hK168 _ _ ?_
  refine wp_seq_k ?_; intro K169 hK169
  refine wp_region_lit ?_
  refine sA hS hR (Yld.assign hS rfl) (by decide) ?_; clear hS; intro aa hS
  refine wpList_nil ?_
  refine hK169 _ _ ?_
  refine wp_seq_k ?_; intro K170 hK170
  refine wp_seq_k ?_; intro K171 hK171
  refine wp_region_lit ?_
  refine sA hS hR (Yld.move hS rfl) (by decide) ?_; clear hS; intro aa hS
  refine sA hS hR (Yld.len hS rfl Try.underlying22) (by decide) ?_; clear hS; intro aa hS
  refine sA hS hR (Yld.move hS rfl) (by decide) ?_; clear hS; intro aa hS
  refine wpList_nil ?_
  refine hK171 _ _ ?_
  refine wp_block ?_
  replace hR := hR.slsNil (T := 34) (sz := 5)
  replace hR := hR.pk (r := sls none 0 0 34 5 []) pkQ
  refine loopI (X := Nat × List Ky × Option Addr × Nat) [(2, _), (6, _), (7, _)] (fun x => [(3, .slice x.2.2.1 x.2.1.length x.2.2.2), (8, .int .i64 (x.1 : Int))]) (fun x => [sls x.2.2.1 x.2.1.length x.2.2.2 34 5 (x.2.1.flatMap eK)]) _ (fun x => x.1 ≤ m ∧ x.2.1.length = x.1 ∧ ∀ k ∈ x.2.1, WfK k) (fun x => m - x.1) (0, [], none, 0) ⟨Nat.zero_le _, rfl, by simp⟩ (hS.le (Le.cons rfl (Le.cons rfl (Le.nilapp (Le.cons rfl (Le.cons rfl (Le.cons rfl (Le.nil _)))))))) hR ?_
  clear hS hR; rintro ⟨k, ks, r0, c0⟩ aa ww hI hS hR; dsimp only [List.cons_append, List.nil_append] at hI hS hR
  refine wp_seq_k ?_; intro K173 hK173
  refine wp_region_lit ?_
  refine sA hS hR (Yld.lss hS rfl rfl) (by decide) ?_; clear hS; intro aa hS
  refine wpList_nil ?_
  refine hK173 _ _ ?_
  refine wp_seq_k ?_; intro K174 hK174
  refine hS.splitB (t := 9) rfl ?_ ?_ <;> clear hS
  · intro hg hS
    refine condT hS rfl ?_
    refine wp_skip ?_
    refine hK174 _ _ ?_
    refine wp_seq_k ?_; intro K175 hK175
    refine wp_block ?_
    refine wp_seq_k ?_; intro K176 hK176
    refine wp_region_lit ?_
    obtain ⟨ba, ia, ns, hq, hx, hl, hw, hc⟩ := A1.at (k := k) (by omega)
    obtain ⟨s0, rfl⟩ := len1 hl
    subst hq
    have hs0 : 0 ≤ s0 ∧ s0 ≤ 4294967295 := hw.1
    refine sA hS hR ((by first | exact Yld.indexL (sz := 1) _ hS rfl rfl Try.underlying22 info31 pkQ rfl rfl (by omega) | exact Yld.indexB (sz := 1) _ hS rfl rfl Try.underlying22 info31 rfl rfl (by omega) | exact Yld.indexSlice hS rfl rfl Try.underlying22 info31 (by omega) (by omega))) (by decide) ?_; clear hS; intro aa hS
    refine sA hS hR (Yld.load1 hS rfl Try.underlying31 rfl (Rds.rd (Rds.at (Rds.old pkQ hc) (by rfl)) (by rfl))) (by decide) ?_; clear hS; intro aa hS
    refine sA hS hR (Yld.assign hS rfl) (by decide) ?_; clear hS; intro aa hS
    refine wpList_nil ?_
    refine hK176 _ _ ?_
    refine wp_region_lit ?_
    refine sA hS hR (Yld.move hS rfl) (by decide) ?_; clear hS; intro aa hS
    refine sB (BbuildSlice hS hR rfl (bls73_3_0_1_2 _ _ _) (by decide) ?_); clear hS hR; intro aa ww bb13 hS hR
    refine sA hS hR (Yld.move hS rfl) (by decide) ?_; clear hS; intro aa hS
    refine sA hS hR ((by first | exact Yld.rem64 hS rfl rfl (by omega) | exact Yld.rem hS rfl rfl (by omega))) (by decide) ?_; clear hS; intro aa hS
    obtain ⟨k3, hk3, hk3l⟩ := emod_nat (n := s0) (d := 3) (m := 3) rfl (by omega)
    replace hS := hS.say (t := 15) (.int .u32 (k3 : Int)) rfl (by rw [hk3])
    obtain ⟨pv, hpv, hpb⟩ : ∃ pv : Int, ([.int .u8 6, .int .u8 17, .int .u8 1] : List Value)[k3]? = some (.int .u8 pv) ∧ 0 ≤ pv ∧ pv ≤ 255 := by
      obtain rfl | rfl | rfl : k3 = 0 ∨ k3 = 1 ∨ k3 = 2 := by omega
      · exact ⟨6, rfl, by omega⟩
      · exact ⟨17, rfl, by omega⟩
      · exact ⟨1, rfl, by omega⟩
    refine sA hS hR ((by first | exact Yld.indexL (sz := 1) (k3) hS rfl rfl Try.underlying73 info5 pkQ rfl (by first | rfl | omega) (by omega) | exact Yld.indexB (sz := 1) (k3) hS rfl rfl Try.underlying73 info5 rfl (by first | rfl | omega) (by omega))) (by decide) ?_; clear hS; intro aa hS
    refine sA hS hR (Yld.load1 hS rfl Try.underlying5 rfl (Rd.at (Rd.blk pkQ hpv) (by omega))) (by decide) ?_; clear hS; intro aa hS
    refine sA hS hR (Yld.move hS rfl) (by decide) ?_; clear hS; intro aa hS
    refine sA hS hR ((by first | exact Yld.to (Yld.quo hS rfl rfl (by omega)) (congrArg (Value.int .u32) (IntWalk.u32_quo _ _ (by omega))) | exact Yld.quo hS rfl rfl (by omega))) (by decide) ?_; clear hS; intro aa hS
    refine sA hS hR ((by first | exact Yld.rem64 hS rfl rfl (by omega) | exact Yld.rem hS rfl rfl (by omega))) (by decide) ?_; clear hS; intro aa hS
    refine sA hS hR (Yld.or hS rfl rfl) (by decide) ?_; clear hS; intro aa hS
    refine sA hS hR (Yld.move hS rfl) (by decide) ?_; clear hS; intro aa hS
    refine sA hS hR ((by first | exact Yld.to (Yld.quo hS rfl rfl (by omega)) (congrArg (Value.int .u32) (IntWalk.u32_quo _ _ (by omega))) | exact Yld.quo hS rfl rfl (by omega))) (by decide) ?_; clear hS; intro aa hS
    refine sA hS hR ((by first | exact Yld.rem64 hS rfl rfl (by omega) | exact Yld.rem hS rfl rfl (by omega))) (by decide) ?_; clear hS; intro aa hS
    refine sA hS hR (Yld.shlL 8 256 hS rfl rfl rfl (by decide) (by decide)) (by decide) ?_; clear hS; intro aa hS
    refine sA hS hR (Yld.or hS rfl rfl) (by decide) ?_; clear hS; intro aa hS
    refine sA hS hR (Yld.move hS rfl) (by decide) ?_; clear hS; intro aa hS
    refine sA hS hR ((by first | exact Yld.to (Yld.quo hS rfl rfl (by omega)) (congrArg (Value.int .u32) (IntWalk.u32_quo _ _ (by omega))) | exact Yld.quo hS rfl rfl (by omega))) (by decide) ?_; clear hS; intro aa hS
    refine sA hS hR ((by first | exact Yld.rem64 hS rfl rfl (by omega) | exact Yld.rem hS rfl rfl (by omega))) (by decide) ?_; clear hS; intro aa hS
    refine sA hS hR (Yld.or hS rfl rfl) (by decide) ?_; clear hS; intro aa hS
    refine sA hS hR (Yld.move hS rfl) (by decide) ?_; clear hS; intro aa hS
    refine sA hS hR ((by first | exact Yld.to (Yld.quo hS rfl rfl (by omega)) (congrArg (Value.int .u32) (IntWalk.u32_quo _ _ (by omega))) | exact Yld.quo hS rfl rfl (by omega))) (by decide) ?_; clear hS; intro aa hS
    refine sA hS hR ((by first | exact Yld.rem64 hS rfl rfl (by omega) | exact Yld.rem hS rfl rfl (by omega))) (by decide) ?_; clear hS; intro aa hS
    refine sA hS hR ((by first | exact Yld.to (Yld.mul hS rfl rfl) (congrArg (Value.int .u32) (IntWalk.u32_in _ (by omega))) | exact Yld.mul hS rfl rfl)) (by decide) ?_; clear hS; intro aa hS
    refine sA hS hR ((by first | exact Yld.to (Yld.convInt hS rfl rfl Try.underlying32) (congrArg (Value.int .u16) (IntWalk.u16_in _ (by omega))) | exact Yld.convInt hS rfl rfl Try.underlying32)) (by decide) ?_; clear hS; intro aa hS
    refine sA hS hR (Yld.move hS rfl) (by decide) ?_; clear hS; intro aa hS
    refine sA hS hR ((by first | exact Yld.to (Yld.quo hS rfl rfl (by omega)) (congrArg (Value.int .u32) (IntWalk.u32_quo _ _ (by omega))) | exact Yld.quo hS rfl rfl (by omega))) (by decide) ?_; clear hS; intro aa hS
    refine sA hS hR ((by first | exact Yld.rem64 hS rfl rfl (by omega) | exact Yld.rem hS rfl rfl (by omega))) (by decide) ?_; clear hS; intro aa hS
    refine sA hS hR ((by first | exact Yld.to (Yld.convInt hS rfl rfl Try.underlying32) (congrArg (Value.int .u16) (IntWalk.u16_in _ (by omega))) | exact Yld.convInt hS rfl rfl Try.underlying32)) (by decide) ?_; clear hS; intro aa hS
    refine sA hS hR (Yld.build hS rfl (bld34_0_1_2_3_4 _ _ _ _ _)) (by decide) ?_; clear hS; intro aa hS
    refine sB (BbuildSlice hS hR rfl (bls24_1_0 _ _ _ _ _) (by decide) ?_); clear hS hR; intro aa ww bb41 hS hR
    refine sB (BappendR (sz := 5) hS hR rfl rfl Try.underlying24 info34 rfl rfl (by rfl) pkQ (XC.one ((_, _, _, _, _)) pkQ (by rfl) rfl) (by intro _; rfl) (by show (_ + _) * 16 ≤ _; first | omega | (simp only [List.length_take, List.length_append, List.length_drop, List.length_cons, List.length_nil, List.length_map]; omega)) (by first | omega | (simp only [List.length_take, List.length_append, List.length_drop, List.length_cons, List.length_nil, List.length_map]; omega)) (by first | rfl | (simp; done) | (simp; omega)) (by decide) ?_); clear hS hR; intro aa ww r42 c42 hS hR
    refine sA hS hR (Yld.assign hS rfl) (by decide) ?_; clear hS; intro aa hS
    refine wpList_nil ?_
    refine hK175 _ _ ?_
    refine wp_region_lit ?_
    refine sA hS hR ((by first | exact Yld.add64 hS rfl rfl (by omega) | exact Yld.add hS rfl rfl)) (by decide) ?_; clear hS; intro aa hS
    refine sA hS hR (Yld.move hS rfl) (by decide) ?_; clear hS; intro aa hS
    refine wpList_nil ?_
    
    refine ⟨(k + 1, _, _, _), ?_, ?_, hS.le (Le.cons rfl (Le.cons rfl (Le.nilapp (Le.cons rfl (Le.cons rfl (Le.cons rfl (Le.nil _))))))), hR.sub (Ex.take pkQ (Ex.nilapp exQ))⟩
    · dsimp only; refine ⟨by omega, by rw [List.length_append]; simp; omega, fun e he => ?_⟩; rcases List.mem_append.1 he with h8 | h8; exact hI.2.2 e h8; simp only [List.mem_singleton] at h8; subst h8; exact ⟨by dsimp only; omega, bits32 (op := .or), bits32 (op := .or), by dsimp only; omega, by dsimp only; omega⟩
    · dsimp only; omega
  · intro hg hS
    obtain rfl : m = k := by omega
    refine condF hS rfl ?_
    refine wp_exit ?_
    refine hK170 _ _ ?_
    refine wp_seq_k ?_; intro K177 hK177
    refine wp_region_lit ?_
    refine sA hS hR (Yld.move hS rfl) (by decide) ?_; clear hS; intro aa hS
    refine sA hS hR (Yld.assign hS rfl) (by decide) ?_; clear hS; intro aa hS
    refine wpList_nil ?_
    refine hK177 _ _ ?_
    refine wp_ret ?_
    repeat (first | with_reducible refine thenR ?_ | with_reducible refine blockR ?_ | with_reducible refine scopeR ?_)
    refine ret1 (fn := Try.f10) (e := .ret) (.inl rfl) Try.results10 hS hR ⟨_, (.tmp rfl), ?_⟩
    exact ⟨_, _, _, rfl, hI.2.1, hI.2.2, (hR.sub exQ)⟩
end Go.Proofs.Ytmcfmhiadlkglaa.Sx
