/-
 
-/
import Derived.Test.YtkhdejjompbklaaGreatOTrC
namespace Go.Proofs.YtkhdejjompbklaaGreat.Sx
open Go
set_option maxRecDepth 20000
set_option linter.unusedVariables false
set_option linter.unusedSimpArgs false
theorem bld208_  (w : World) : (Instr.build 208 [].toArray).run Tryz.prog w = .ok (.agg [.int .i64 0, .int .i64 0, .int .i64 0, .int .i64 0, .int .i64 0, .int .i64 0, .int .i64 0, .int .i64 0, .int .i64 0, .int .i64 0, .int .i64 0, .int .i64 0, .int .i64 0, .int .i64 0, .int .i64 0, .int .i64 0, .int .i64 0, .int .i64 0].toArray) w := by kernel_rfl
theorem bls209_1_0 (x0_0 : Int) (x0_1 : Int) (x0_2 : Int) (x0_3 : Int) (x0_4 : Int) (x0_5 : Int) (x0_6 : Int) (x0_7 : Int) (x0_8 : Int) (x0_9 : Int) (x0_10 : Int) (x0_11 : Int) (x0_12 : Int) (x0_13 : Int) (x0_14 : Int) (x0_15 : Int) (x0_16 : Int) (x0_17 : Int) (w : World) : (Instr.buildSlice 209 1 [(0, .agg [.int .i64 x0_0, .int .i64 x0_1, .int .i64 x0_2, .int .i64 x0_3, .int .i64 x0_4, .int .i64 x0_5, .int .i64 x0_6, .int .i64 x0_7, .int .i64 x0_8, .int .i64 x0_9, .int .i64 x0_10, .int .i64 x0_11, .int .i64 x0_12, .int .i64 x0_13, .int .i64 x0_14, .int .i64 x0_15, .int .i64 x0_16, .int .i64 x0_17].toArray)].toArray).run Tryz.prog w = .ok (.slice (some ⟨w.heap.size, 0, none⟩) 1 1) (w.alloc (.cells ([.int .i64 x0_0, .int .i64 x0_1, .int .i64 x0_2, .int .i64 x0_3, .int .i64 x0_4, .int .i64 x0_5, .int .i64 x0_6, .int .i64 x0_7, .int .i64 x0_8, .int .i64 x0_9, .int .i64 x0_10, .int .i64 x0_11, .int .i64 x0_12, .int .i64 x0_13, .int .i64 x0_14, .int .i64 x0_15, .int .i64 x0_16, .int .i64 x0_17] : List Value).toArray 208)) := by kernel_rfl
set_option maxHeartbeats 1000000 in
theorem fresh_ok {T : Tr} {b : Nat} {r1 r2 : Option Addr} {c1 c2 : Nat} {l : List HP} {w : World} (hR : Sep (blk b [.slice r1 T.nodes.length c1, .slice r2 T.frees.length c2, .int .i64 T.most] 211 :: sls r1 T.nodes.length c1 208 18 (T.nodes.flatMap eN) :: sls r2 T.frees.length c2 3 1 (T.frees.flatMap e1) :: l) w) (hb : T.free = [] → T.nodes.length ≤ 300000) (hfl : ∀ i ∈ T.free, i < T.nodes.length) (hfb : T.free.length ≤ 100000000) : CallR Tryz.prog 140 [.pointer (some ⟨b, 0, none⟩)] w (fun v w' => v = .int .i64 (freshI T : Int) ∧ Sep (trieT 211 208 3 b (freshT T) :: l) w') := by
 refine enter Tryz.func140 rfl Tryz.ntmps140 (Nat.le_of_ble_eq_true rfl) ?_; intro aa hS
 have hfe : T.frees.length = T.free.length := List.length_map _
 have hcp := (hR.pk (r := sls r2 _ _ _ _ _) pkQ).slsLe.1
 refine wp_seq_k ?_; intro K349 hK349
 refine wp_region_lit ?_
 revert aa
 refine qN hR ?_
 intro aa hS
 refine wpList_nil ?_
 refine hK349 _ _ ?_
 refine wp_seq_k ?_; intro K350 hK350
 refine wp_seq_k ?_; intro K351 hK351
 refine wp_region_lit ?_
 revert aa
 refine qM hR ?_
 refine qA hR rfl (fun _ hS => Yld.nilCheck hS rfl) ?_
 refine qA hR rfl (fun _ hS => Yld.fieldAddr hS rfl 1 Tryz.underlying211 rfl rfl info36 (by decide)) ?_
 refine qA hR rfl (fun _ hS => Yld.load1 hS rfl Tryz.underlying36 rfl rdQ) ?_
 refine qA hR rfl (fun _ hS => Yld.len hS rfl Tryz.underlying36) ?_
 refine qN hR ?_
 intro aa hS
 refine wpList_nil ?_
 refine hK351 _ _ ?_
 refine wp_seq_k ?_; intro K352 hK352
 refine wp_region_lit ?_
 revert aa
 refine qM hR ?_
 refine qA hR rfl (fun _ hS => Yld.gtr hS rfl rfl) ?_
 intro aa hS
 refine wpList_nil ?_
 refine hK352 _ _ ?_
 refine hS.splitB (t := 11) rfl ?_ ?_ <;> clear hS
 ·
  intro hg hS
  have hne : T.free ≠ [] := fun e => by have h0 := congrArg List.length e; rw [List.length_nil] at h0; omega
  have hfi : freshI T = T.free.getLast hne := by simp [freshI, List.getLast?_eq_some_getLast hne]
  have hft : freshT T = { T with nodes := T.nodes.set (freshI T) z0, free := T.free.dropLast } := by rw [freshT, if_neg hne]
  have hin : freshI T < T.nodes.length := hfl _ (by rw [hfi]; exact List.getLast_mem hne)
  obtain ⟨m, hm⟩ : ∃ m : Nat, T.frees.length = m + 1 := ⟨T.frees.length - 1, by omega⟩
  refine condT hS rfl ?_
  refine wp_seq_k ?_; intro K353 hK353
  refine wp_region_lit ?_
  revert aa
  refine qM hR ?_
  refine qA hR rfl (fun _ hS => Yld.nilCheck hS rfl) ?_
  refine qA hR rfl (fun _ hS => Yld.fieldAddr hS rfl 1 Tryz.underlying211 rfl rfl info36 (by decide)) ?_
  refine qA hR rfl (fun _ hS => Yld.load1 hS rfl Tryz.underlying36 rfl rdQ) ?_
  refine qM hR ?_
  intro aa hS
  refine sA hS hR suQ (by decide) ?_; clear hS; intro aa hS
  refine sA hS hR ((ilQ 1 (m) Tryz.underlying36 info3)) (by decide) ?_; clear hS; intro aa hS
  refine sA hS hR (Yld.load1 hS rfl Tryz.underlying3 rfl rdQ) (by decide) ?_; clear hS; intro aa hS
  replace hS := hS.say (t := 19) (.int .i64 (freshI T : Int)) rfl (by rw [hfi]; congr 1; simp only [Tr.frees, List.getElem_map]; congr 1; rw [List.getLast_eq_getElem]; congr 1; omega)
  revert aa
  refine qN hR ?_
  intro aa hS
  refine wpList_nil ?_
  refine hK353 _ _ ?_
  refine wp_seq_k ?_; intro K354 hK354
  refine wp_region_lit ?_
  revert aa
  refine qM hR ?_
  refine qM hR ?_
  refine qA hR rfl (fun _ hS => Yld.nilCheck hS rfl) ?_
  refine qA hR rfl (fun _ hS => Yld.fieldAddr hS rfl 1 Tryz.underlying211 rfl rfl info36 (by decide)) ?_
  refine qA hR rfl (fun _ hS => Yld.load1 hS rfl Tryz.underlying36 rfl rdQ) ?_
  refine qM hR ?_
  intro aa hS
  refine sA hS hR suQ (by decide) ?_; clear hS; intro aa hS
  refine sA hS hR (Yld.sliceHi hS rfl rfl Tryz.underlying36 info3 (by omega) (by omega)) (by decide) ?_; clear hS; intro aa hS
  replace hR := hR.pk (r := sls r2 _ _ _ _ _) pkQ
  replace hR := hR.slsTake (k := m) (by intro _; rfl) rfl (by omega)
  replace hS := hS.say (t := 27) (.slice r2 m c2) rfl (by rw [hm]; congr 1; omega)
  revert aa
  refine qA hR rfl (fun _ hS => Yld.nilCheck hS rfl) ?_
  refine qA hR rfl (fun _ hS => Yld.fieldAddr hS rfl 1 Tryz.underlying211 rfl rfl info36 (by decide)) ?_
  intro aa hS
  refine sB (Bstore hS hR rfl rfl (by rfl) info36 (by rfl) pkQ (by rfl) (Nat.le_of_ble_eq_true rfl) ?_); clear hR; intro ww hR
  refine wpList_nil ?_
  refine hK354 _ _ ?_
  refine wp_seq_k ?_; intro K355 hK355
  refine wp_region_lit ?_
  revert aa
  refine qM hR ?_
  refine qA hR rfl (fun _ hS => Yld.nilCheck hS rfl) ?_
  refine qA hR rfl (fun _ hS => Yld.fieldAddr hS rfl 0 Tryz.underlying211 rfl rfl info209 (by decide)) ?_
  refine qA hR rfl (fun _ hS => Yld.load1 hS rfl Tryz.underlying209 rfl rdQ) ?_
  refine qM hR ?_
  refine qA hR rfl (fun _ hS => Yld.build hS rfl (bld208_)) ?_
  refine qA hR rfl (fun _ hS => ilQ 18 (freshI T) Tryz.underlying209 info208) ?_
  intro aa hS
  refine sB (BstoreR0 (z0) hS hR rfl rfl (by rfl) info208 (by rfl) pkQ (by rfl) (by intro _; rfl) (by omega) (by first | exact Nat.le_of_ble_eq_true rfl | (simp only [List.length_singleton]; omega)) (Nat.le_of_ble_eq_true rfl) (by rfl) ?_); clear hR; intro ww hR
  refine wpList_nil ?_
  refine hK355 _ _ ?_
  refine wp_seq_k ?_; intro K356 hK356
  refine wp_region_lit ?_
  revert aa
  refine qM hR ?_
  refine qN hR ?_
  intro aa hS
  refine wpList_nil ?_
  refine hK356 _ _ ?_
  refine wp_ret ?_
  repeat first | with_reducible refine thenR ?_ | with_reducible refine blockR ?_ | with_reducible refine scopeR ?_
  refine ret1 (fn := Tryz.f140) (e := .ret) (.inl rfl) Tryz.results140 hS hR ⟨_, (.tmp rfl), ?_⟩
  rw [hft]
  try dsimp only [lay, List.set] at hR
  have htk : T.frees.take m = T.free.dropLast.map (fun i : Nat => (i : Int)) := by
   rw [Tr.frees, List.map_dropLast, List.dropLast_eq_take, List.length_map]; congr 1; omega
  rw [htk] at hR
  exact ⟨rfl, Sep.trieI (TA := 211) (TN := 208) (TI := 3) (b := b) (T := { T with nodes := T.nodes.set (freshI T) z0, free := T.free.dropLast }) (n1 := T.nodes.length) (n2 := m) (by simp) (by simp [Tr.frees]; omega) (hR.sub exQ)⟩
 ·
  intro hg hS
  have hfn : T.free = [] := List.eq_nil_of_length_eq_zero (by omega)
  have hft : freshT T = { T with nodes := T.nodes ++ [z0] } := by rw [freshT, if_pos hfn]
  have hfi : freshI T = T.nodes.length := by simp [freshI, hfn]
  have hbb := hb hfn
  refine condF hS rfl ?_
  refine wp_skip ?_
  refine hK350 _ _ ?_
  refine wp_seq_k ?_; intro K357 hK357
  refine wp_region_lit ?_
  revert aa
  refine qM hR ?_
  refine qM hR ?_
  refine qA hR rfl (fun _ hS => Yld.nilCheck hS rfl) ?_
  refine qA hR rfl (fun _ hS => Yld.fieldAddr hS rfl 0 Tryz.underlying211 rfl rfl info209 (by decide)) ?_
  intro aa hS
  refine sA hS hR (Yld.load1 hS rfl Tryz.underlying209 rfl rdQ) (by decide) ?_; clear hS; intro aa hS
  refine sA hS hR (Yld.build hS rfl (bld208_)) (by decide) ?_; clear hS; intro aa hS
  refine sB (BbuildSlice hS hR rfl (bls209_1_0 _ _ _ _ _ _ _ _ _ _ _ _ _ _ _ _ _ _) (by decide) ?_); clear hS hR; intro aa ww bb44 hS hR
  refine sB (BappendR (sz := 18) hS hR rfl rfl Tryz.underlying209 info208 rfl rfl (by rfl) pkQ (XC.one (z0) pkQ (by rfl) rfl) (by intro _; rfl) (by show (_ + _) * 144 ≤ _; exact lenQ) lenQ (by first | rfl | (simp; done) | (simp; omega)) (by decide) ?_); clear hS hR; intro aa ww r45 c45 hS hR
  revert aa
  refine qA hR rfl (fun _ hS => Yld.nilCheck hS rfl) ?_
  refine qA hR rfl (fun _ hS => Yld.fieldAddr hS rfl 0 Tryz.underlying211 rfl rfl info209 (by decide)) ?_
  intro aa hS
  refine sB (Bstore hS hR rfl rfl (by rfl) info209 (by rfl) pkQ (by rfl) (Nat.le_of_ble_eq_true rfl) ?_); clear hR; intro ww hR
  refine wpList_nil ?_
  refine hK357 _ _ ?_
  refine wp_seq_k ?_; intro K358 hK358
  refine wp_region_lit ?_
  revert aa
  refine qM hR ?_
  refine qA hR rfl (fun _ hS => Yld.nilCheck hS rfl) ?_
  refine qA hR rfl (fun _ hS => Yld.fieldAddr hS rfl 0 Tryz.underlying211 rfl rfl info209 (by decide)) ?_
  refine qA hR rfl (fun _ hS => Yld.load1 hS rfl Tryz.underlying209 rfl rdQ) ?_
  refine qA hR rfl (fun _ hS => Yld.len hS rfl Tryz.underlying209) ?_
  intro aa hS
  refine sA hS hR suQ (by decide) ?_; clear hS; intro aa hS
  revert aa
  refine qN hR ?_
  intro aa hS
  refine wpList_nil ?_
  refine hK358 _ _ ?_
  refine wp_ret ?_
  repeat first | with_reducible refine thenR ?_ | with_reducible refine blockR ?_ | with_reducible refine scopeR ?_
  refine ret1 (fn := Tryz.f140) (e := .ret) (.inl rfl) Tryz.results140 hS hR ⟨_, (.tmp rfl), ?_⟩
  rw [hft]
  try dsimp only [lay, List.set] at hR
  exact ⟨by rw [hfi]; simp; exact IntWalk.i64_in _ (by omega), Sep.trieI (TA := 211) (TN := 208) (TI := 3) (b := b) (T := { T with nodes := T.nodes ++ [z0] })  (by rfl) (by rfl) (hR.sub exQ)⟩
end Go.Proofs.YtkhdejjompbklaaGreat.Sx
