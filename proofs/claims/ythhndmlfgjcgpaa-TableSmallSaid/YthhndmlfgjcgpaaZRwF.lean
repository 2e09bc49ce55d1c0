/-
 
-/
import Derived.Test.YthhndmlfgjcgpaaZRwE
namespace Go.Proofs.Ythhndmlfgjcgpaa.Sx
open Go
set_option maxRecDepth 20000
set_option linter.unusedVariables false
set_option linter.unusedSimpArgs false
theorem bls24_2_0_1 (x0_0 : Int) (x0_1 : Int) (x0_2 : Int) (x0_3 : Int) (x0_4 : Int) (x1_0 : Int) (x1_1 : Int) (x1_2 : Int) (x1_3 : Int) (x1_4 : Int) (w : World) : (Instr.buildSlice 24 2 [(0, .agg [.int .u8 x0_0, .int .u32 x0_1, .int .u32 x0_2, .int .u16 x0_3, .int .u16 x0_4].toArray), (1, .agg [.int .u8 x1_0, .int .u32 x1_1, .int .u32 x1_2, .int .u16 x1_3, .int .u16 x1_4].toArray)].toArray).run Try.prog w = .ok (.slice (some ⟨w.heap.size, 0, none⟩) 2 2) (w.alloc (.cells ([.int .u8 x0_0, .int .u32 x0_1, .int .u32 x0_2, .int .u16 x0_3, .int .u16 x0_4, .int .u8 x1_0, .int .u32 x1_1, .int .u32 x1_2, .int .u16 x1_3, .int .u16 x1_4] : List Value).toArray 35)) := by kernel_rfl
set_option maxHeartbeats 8000000 in
theorem look16_ok {T : Tb} {S n b b2 : Nat} {kd s u i : Int} {k : Ky} {l : List HP} {w : World} (hk : WfK k) (hkd : 0 ≤ kd ∧ kd ≤ 255) (hR : Sep (tableA tt b S n T :: r16A rt b2 S n T :: l) w) : CallR Try.prog 28 [.pointer (some ⟨b, 0, none⟩), .pointer (some ⟨b2, 0, none⟩), .agg [.int .u8 kd, .int .u8 k.1, .int .u32 k.2.1, .int .u32 k.2.2.1, .int .u16 k.2.2.2.1, .int .u16 k.2.2.2.2, .int .i64 s, .int .i64 u, .int .i64 i].toArray] w (fun v w' => v = .bool true ∧ Sep (tableA tt b S n T :: r16A rt b2 S n T :: l) w') := by
 refine enter Try.func28 rfl Try.ntmps28 (Nat.le_of_ble_eq_true rfl) ?_; intro aa hS
 obtain ⟨ba0, r0, c0, hTF, hS4, hR0⟩ := (hR.pk (r := r16A _ b2 _ _ _) pkQ).r16E
 clear hR0
 have hFl := hTF.len
 have hinl : ((inF T.F i).map hd2).length ≤ T.F.length := by rw [List.length_map]; exact inF_len
 have hfrl : (frmF T.F k.2.1).length ≤ S := by unfold frmF; rw [List.length_map]; exact hTF.undLen
 refine wp_seq_k ?_; intro K1119 hK1119
 refine wp_region_lit ?_
 refine sB (Bbox hS hR rfl (by rfl) (by decide) ?_); clear hS hR; intro aa ww bb5 hS hR
 revert aa
 refine qN hR ?_
 intro aa hS
 refine wpList_nil ?_
 refine hK1119 _ _ ?_
 refine wp_seq_k ?_; intro K1120 hK1120
 refine wp_seq_k ?_; intro K1121 hK1121
 refine drawn krQ hR Ex.refl ?_; clear hR; intro ww hR hR0
 revert aa
 refine eA 0 rfl krQ (fun _ _ _ h => h) hR0 rfl (fun _ hS => Yld.fieldAddr hS rfl 1 Try.underlying67 rfl rfl info35 (by decide)) ?_
 intro aa hS
 refine dA 1 rfl krQ krQ krQ (fun _ _ _ h => h) hS hR0 (Yld.loadAgg hS rfl Try.underlying35 rfl info35 rdsQ5 (by rfl)) (by decide) ?_; clear hS; intro aa hS
 revert aa
 refine eA 2 rfl krQ (fun _ _ _ h => h) hR0 rfl (fun _ hS => Yld.fieldAddr hS rfl 1 Try.underlying67 rfl rfl info35 (by decide)) ?_
 intro aa hS
 refine dA 3 rfl krQ krQ krQ (fun _ _ _ h => h) hS hR0 (Yld.loadAgg hS rfl Try.underlying35 rfl info35 rdsQ5 (by rfl)) (by decide) ?_; clear hS; intro aa hS
 revert aa
 refine eA 7 rfl krQ (fun _ _ _ h => h) hR0 rfl (fun _ hS => Yld.move hS rfl) ?_
 intro aa hS
 refine dOne (i := 4) krQ ?_
 refine dop rfl (Bcall hS rfl Try.call16 (Turn_ok (k := k) hR) (by decide) ?_); clear hS; intro aa ww vv hS hp
 clear hR hR0
 obtain ⟨rfl, hR⟩ := hp
 refine dnext (hR.sub exQ) ?_; intro hR0
 refine dOne (i := 5) krQ ?_
 refine dop rfl (BbuildSlice hS hR rfl (bls24_2_0_1 _ _ _ _ _ _ _ _ _ _) (by decide) ?_); clear hS hR hR0; intro aa ww bb31 hS hR
 refine dnext (hR.sub exQ) ?_; intro hR0
 replace hR := hR.pk (r := blk bb31 _ _) pkQ
 replace hR := Sep.toRecs (m := 2) (sz := 5) (enc := eK) (([k, trn k] : List Ky)) hR rfl (by intro _; rfl) rfl
 obtain ⟨ks, hkl, hkw, hR⟩ : ∃ ks : List Ky, ks.length = 2 ∧ (∀ y ∈ ks, WfK y) ∧ Sep (sls (some ⟨bb31, 0, none⟩) 2 2 35 5 (ks.flatMap eK) :: _) _ := ⟨_, rfl, by
  intro y hy
  simp only [List.mem_cons, List.not_mem_nil, or_false] at hy
  rcases hy with rfl | rfl
  ·
   exact hk
  ·
   exact trn_wf hk, hR⟩
 revert aa
 refine eA 6 rfl krQ (fun _ _ _ h => h) hR0 rfl (fun _ hS => Yld.len hS rfl Try.underlying24) ?_
 intro aa hS
 refine wpAnyH_done krQ ?_ _; clear hR0
 refine hK1121 _ _ ?_
 refine wp_block ?_
 refine loopI (X := Nat) [(0, _), (1, _), (5, _), (31, _), (32, _)] (fun x => [(33, .int .i64 (x : Int))]) (fun x => []) _ (fun x => x ≤ 2) (fun x => 2 - x) 0 (Nat.zero_le _) (hS.le (Le.cons rfl (Le.nilapp (Le.cons rfl (Le.cons rfl (Le.cons rfl (Le.cons rfl (Le.cons rfl (Le.nil _))))))))) hR ?_
 clear hS hR; rintro j aa ww hI hS hR; dsimp only [List.cons_append, List.nil_append] at hI hS hR
 refine wp_seq_k ?_; intro K1123 hK1123
 refine wp_region_lit ?_
 refine sA hS hR (Yld.lss hS rfl rfl) (by decide) ?_; clear hS; intro aa hS
 refine wpList_nil ?_
 refine hK1123 _ _ ?_
 refine wp_seq_k ?_; intro K1124 hK1124
 refine hS.splitB (t := 34) rfl ?_ ?_ <;> clear hS
 ·
  intro hg hS
  have hjl : j < ks.length := by omega
  obtain ⟨y0, hy0⟩ : ∃ y, ks[j] = y := ⟨_, rfl⟩
  have hyw : WfK y0 := by rw [← hy0]; exact hkw _ (List.getElem_mem _)
  refine condT hS rfl ?_
  refine wp_skip ?_
  refine hK1124 _ _ ?_
  refine wp_seq_k ?_; intro K1125 hK1125
  refine wp_block ?_
  refine wp_seq_k ?_; intro K1126 hK1126
  refine wp_region_lit ?_
  revert aa
  refine qA hR rfl (fun _ hS => ilQ 5 (j) Try.underlying24 info35) ?_
  refine qA hR rfl (fun _ hS => Yld.loadAgg (vs := eK y0) hS rfl Try.underlying35 rfl info35 (hy0 ▸ Rds.rec (enc := eK) (xs := ks) (k := j) pkQ (by intro _; rfl) hjl) (by rfl)) ?_
  intro aa hS
  refine sB (Balloc hS hR info35 (by rfl) (by rfl) (by decide) ?_); clear hS hR; intro aa ww bb8 hS hR
  refine sB (Bstore hS hR rfl rfl (by rfl) info35 (by rfl) pkQ (by rfl) (Nat.le_of_ble_eq_true rfl) ?_); clear hR; intro ww hR
  refine wpList_nil ?_
  refine hK1126 _ _ ?_
  refine wp_seq_k ?_; intro K1127 hK1127
  refine wp_region_lit ?_
  revert aa
  refine qM hR ?_
  intro aa hS
  refine sA hS hR (Yld.loadAgg hS rfl Try.underlying35 rfl info35 rdsQ5 (by rfl)) (by decide) ?_; clear hS; intro aa hS
  refine sB (Bcall hS rfl Try.call12 (Find_ok (k := y0) hyw (hR.pk (r := tableA _ b _ _ _) pkQ)) (by decide) ?_); clear hS; intro aa ww vv hS hp
  clear hR
  obtain ⟨rfl, hR⟩ := hp
  unfold fndV at hS
  revert aa
  refine qM hR ?_
  refine qX hR ?_
  refine qX hR ?_
  refine qX hR ?_
  intro aa hS
  refine sB (Balloc hS hR info29 (by rfl) (by rfl) (by decide) ?_); clear hS hR; intro aa ww bb9 hS hR
  refine sB (Bstore hS hR rfl rfl (by rfl) info29 (by rfl) pkQ (by rfl) (Nat.le_of_ble_eq_true rfl) ?_); clear hR; intro ww hR
  revert aa
  refine qN hR ?_
  refine qN hR ?_
  intro aa hS
  refine wpList_nil ?_
  refine hK1127 _ _ ?_
  refine wp_seq_k ?_; intro K1128 hK1128
  refine wp_region_lit ?_
  revert aa
  refine qM hR ?_
  intro aa hS
  refine sA hS hR (Yld.loadAgg hS rfl Try.underlying35 rfl info35 rdsQ5 (by rfl)) (by decide) ?_; clear hS; intro aa hS
  refine sB (Bcall hS rfl Try.call61 (RFind_ok (k := y0) (hR.pk (r := r16A _ b2 _ _ _) pkQ)) (by decide) ?_); clear hS; intro aa ww vv hS hp
  clear hR
  obtain ⟨rfl, hR⟩ := hp
  unfold fndV at hS
  revert aa
  refine qM hR ?_
  refine qX hR ?_
  refine qX hR ?_
  refine qX hR ?_
  intro aa hS
  refine sB (Balloc hS hR info112 (by rfl) (by rfl) (by decide) ?_); clear hS hR; intro aa ww bb12 hS hR
  refine sB (Bstore hS hR rfl rfl (by rfl) info112 (by rfl) pkQ (by rfl) (Nat.le_of_ble_eq_true rfl) ?_); clear hR; intro ww hR
  revert aa
  refine qN hR ?_
  refine qN hR ?_
  intro aa hS
  refine wpList_nil ?_
  refine hK1128 _ _ ?_
  refine wp_seq_k ?_; intro K1129 hK1129
  refine drawn krQ hR Ex.refl ?_; clear hR; intro ww hR hR0
  refine dA 0 rfl krQ krQ krQ (fun _ _ _ h => h) hS hR0 (Yld.loadAgg hS rfl Try.underlying29 rfl info29 rdsQ2 (by rfl)) (by decide) ?_; clear hS; intro aa hS
  refine dA 1 rfl krQ krQ krQ (fun _ _ _ h => h) hS hR0 (Yld.loadAgg hS rfl Try.underlying112 rfl info112 rdsQ2 (by rfl)) (by decide) ?_; clear hS; intro aa hS
  revert aa
  refine eA 2 rfl krQ (fun _ _ _ h => h) hR0 rfl (fun _ hS => Yld.binRun hS rfl rfl (neq112 _ _ _ _ _ _)) ?_
  refine qB (t := 53) false rfl (by simp) ?_
  refine eA 3 rfl krQ (fun _ _ _ h => h) hR0 rfl (fun _ hS => Yld.move hS rfl) ?_
  refine eAg 4 rfl krQ (fun _ _ _ h => h) hR0 rfl rfl rfl (fun _ hS => Yld.move hS rfl) ?_
  refine eAg 5 rfl krQ (fun _ _ _ h => h) hR0 rfl rfl rfl (fun _ hS => Yld.move hS rfl) ?_
  refine eAg 6 rfl krQ (fun _ _ _ h => h) hR0 rfl rfl rfl (fun _ hS => Yld.neqB hS rfl rfl Try.underlying4) ?_
  refine qB (t := 57) false rfl (by simp) ?_
  refine eA 7 rfl krQ (fun _ _ _ h => h) hR0 rfl (fun _ hS => Yld.pickF hS rfl rfl) ?_
  refine eA 8 rfl krQ (fun _ _ _ h => h) hR0 rfl (fun _ hS => Yld.move hS rfl) ?_
  refine eAg 9 rfl krQ (fun _ _ _ h => h) hR0 rfl rfl rfl (fun _ hS => Yld.move hS rfl) ?_
  refine eAg 10 rfl krQ (fun _ _ _ h => h) hR0 rfl rfl rfl (fun _ hS => Yld.move hS rfl) ?_
  refine eAg 11 rfl krQ (fun _ _ _ h => h) hR0 rfl rfl rfl (fun _ hS => Yld.neqB hS rfl rfl Try.underlying4) ?_
  refine qB (t := 62) false rfl (by simp) ?_
  refine eA 12 rfl krQ (fun _ _ _ h => h) hR0 rfl (fun _ hS => Yld.pickF hS rfl rfl) ?_
  refine eA 13 rfl krQ (fun _ _ _ h => h) hR0 rfl (fun _ hS => Yld.move hS rfl) ?_
  intro aa hS
  refine dAg 14 rfl krQ krQ krQ (fun _ _ _ h => h) hS rfl rfl hR0 (Yld.loadAgg hS rfl Try.underlying35 rfl info35 rdsQ5 (by rfl)) (by decide) ?_; clear hS; intro aa hS
  refine dAg 16 rfl krQ krQ krQ (fun _ _ _ h => h) hS rfl rfl hR0 (Yld.loadAgg hS rfl Try.underlying35 rfl info35 rdsQ5 (by rfl)) (by decide) ?_; clear hS; intro aa hS
  refine dOne (i := 15) krQ ?_
  refine dopg rfl hS rfl rfl (Bcall hS rfl Try.call16 (Turn_ok (k := y0) hR) (by decide) ?_); clear hS; intro aa ww vv hS hp
  clear hR hR0
  obtain ⟨rfl, hR⟩ := hp
  refine dnext (hR.sub exQ) ?_; intro hR0
  refine dOne (i := 17) krQ ?_
  refine dopg rfl hS rfl rfl (Bcall hS rfl Try.call62 (RTurn_ok (k := y0) hR) (by decide) ?_); clear hS; intro aa ww vv hS hp
  clear hR hR0
  obtain ⟨rfl, hR⟩ := hp
  refine dnext (hR.sub exQ) ?_; intro hR0
  revert aa
  refine eAg 18 rfl krQ (fun _ _ _ h => h) hR0 rfl rfl rfl (fun _ hS => Yld.binRun hS rfl rfl (neq35 _ _ _ _ _ _ _ _ _ _ _ _)) ?_
  refine qB (t := 69) false rfl (by simp) ?_
  refine eA 19 rfl krQ (fun _ _ _ h => h) hR0 rfl (fun _ hS => Yld.pickF hS rfl rfl) ?_
  intro aa hS
  refine wpAnyH_done krQ ?_ _; clear hR0
  refine hK1129 _ _ ?_
  refine condF hS rfl ?_
  refine wp_skip ?_
  refine hK1125 _ _ ?_
  refine wp_region_lit ?_
  refine sA hS hR adQ (by decide) ?_; clear hS; intro aa hS
  revert aa
  refine qM hR ?_
  intro aa hS
  refine wpList_nil ?_
  refine ⟨j + 1, ?_, ?_, hS.le (Le.cons rfl (Le.nilapp (Le.cons rfl (Le.cons rfl (Le.cons rfl (Le.cons rfl (Le.cons rfl (Le.nil _)))))))), hR.sub (Ex.nilapp exQ)⟩
  ·
   omega
  ·
   omega
 ·
  intro hg hS
  refine condF hS rfl ?_
  refine wp_exit ?_
  refine hK1120 _ _ ?_
  refine wp_seq_k ?_; intro K1130 hK1130
  refine wp_region_lit ?_
  revert aa
  refine qA hR rfl (fun _ hS => Yld.fieldAddr hS rfl 6 Try.underlying67 rfl rfl info3 (by decide)) ?_
  refine qA hR rfl (fun _ hS => Yld.load1 hS rfl Try.underlying3 rfl rdQ) ?_
  refine qA hR rfl (fun _ hS => Yld.fieldAddr hS rfl 7 Try.underlying67 rfl rfl info3 (by decide)) ?_
  refine qA hR rfl (fun _ hS => Yld.load1 hS rfl Try.underlying3 rfl rdQ) ?_
  intro aa hS
  by_cases hn : (getF T.F s u).isSome = true
  ·
   refine sA hS hR (Yld.build hS rfl (bld29_0_1 _ _)) (by decide) ?_; clear hS; intro aa hS
   obtain ⟨f, hgf⟩ := Option.isSome_iff_exists.1 hn
   obtain ⟨hfm, hfs, hfu⟩ := (getF_mem hTF).1 hgf
   subst hfs hfu
   refine sB (Balloc hS hR info29 (by rfl) (by rfl) (by decide) ?_); clear hS hR; intro aa ww bb15 hS hR
   refine sB (Bstore hS hR rfl rfl (by rfl) info29 (by rfl) pkQ (by rfl) (Nat.le_of_ble_eq_true rfl) ?_); clear hR; intro ww hR
   refine wpList_nil ?_
   refine hK1130 _ _ ?_
   refine wp_seq_k ?_; intro K1131 hK1131
   refine wp_region_lit ?_
   revert aa
   refine qM hR ?_
   intro aa hS
   refine sA hS hR (Yld.loadAgg hS rfl Try.underlying29 rfl info29 rdsQ2 (by rfl)) (by decide) ?_; clear hS; intro aa hS
   refine sB (Bcall hS rfl Try.call22 (TbKey_ok hfm (hR.pk (r := tableA _ b _ _ _) pkQ)) (by decide) ?_); clear hS; intro aa ww vv hS hp
   clear hR
   obtain ⟨rfl, hR⟩ := hp
   revert aa
   refine qM hR ?_
   refine qX hR ?_
   refine qX hR ?_
   intro aa hS
   refine sB (Balloc hS hR info35 (by rfl) (by rfl) (by decide) ?_); clear hS hR; intro aa ww bb16 hS hR
   refine sB (Bstore hS hR rfl rfl (by rfl) info35 (by rfl) pkQ (by rfl) (Nat.le_of_ble_eq_true rfl) ?_); clear hR; intro ww hR
   revert aa
   refine qN hR ?_
   intro aa hS
   refine wpList_nil ?_
   refine hK1131 _ _ ?_
   refine wp_seq_k ?_; intro K1132 hK1132
   refine wp_region_lit ?_
   revert aa
   refine qM hR ?_
   intro aa hS
   refine sA hS hR (Yld.loadAgg hS rfl Try.underlying29 rfl info29 rdsQ2 (by rfl)) (by decide) ?_; clear hS; intro aa hS
   refine sB (Bcall hS rfl Try.call13 (TbList_ok hfm (hR.pk (r := tableA _ b _ _ _) pkQ)) (by decide) ?_); clear hS; intro aa ww vv hS hp
   clear hR
   obtain ⟨rfl, hR⟩ := hp
   revert aa
   refine qM hR ?_
   refine qX hR ?_
   refine qX hR ?_
   refine qN hR ?_
   refine qN hR ?_
   intro aa hS
   refine wpList_nil ?_
   refine hK1132 _ _ ?_
   refine wp_seq_k ?_; intro K1133 hK1133
   refine wp_region_lit ?_
   revert aa
   refine qM hR ?_
   intro aa hS
   refine sA hS hR (Yld.loadAgg hS rfl Try.underlying29 rfl info29 rdsQ2 (by rfl)) (by decide) ?_; clear hS; intro aa hS
   refine sB (Bcall hS rfl Try.call63 (RfAt_ok (s := (f.s : Int)) (u := f.u) (hR.pk (r := r16A _ b2 _ _ _) pkQ)) (by decide) ?_); clear hS; intro aa ww vv hS hp
   clear hR
   obtain ⟨rfl, hR⟩ := hp
   unfold atF at hS
   rw [hgf] at hS
   dsimp only [Option.getD, Option.isSome] at hS
   revert aa
   refine qM hR ?_
   refine qX hR ?_
   refine qX hR ?_
   intro aa hS
   refine sB (Balloc hS hR info123 (by rfl) (by rfl) (by decide) ?_); clear hS hR; intro aa ww bb20 hS hR
   refine sB (Bstore hS hR rfl rfl (by rfl) info123 (by rfl) pkQ (by rfl) (Nat.le_of_ble_eq_true rfl) ?_); clear hR; intro ww hR
   revert aa
   refine qN hR ?_
   intro aa hS
   refine wpList_nil ?_
   refine hK1133 _ _ ?_
   refine wp_seq_k ?_; intro K1134 hK1134
   refine wp_seq_k ?_; intro K1135 hK1135
   refine wp_region_lit ?_
   refine sA hS hR (Yld.loadAgg hS rfl Try.underlying35 rfl info35 rdsQ5 (by rfl)) (by decide) ?_; clear hS; intro aa hS
   refine sA hS hR (Yld.fieldAddr hS rfl 2 Try.underlying123 rfl rfl info35 (by decide)) (by decide) ?_; clear hS; intro aa hS
   refine sA hS hR (Yld.loadAgg hS rfl Try.underlying35 rfl info35 rdsQ5 (by rfl)) (by decide) ?_; clear hS; intro aa hS
   revert aa
   refine qA hR rfl (fun _ hS => Yld.binRun hS rfl rfl (neq35 _ _ _ _ _ _ _ _ _ _ _ _)) ?_
   refine qB (t := 98) false rfl (by simp) ?_
   refine qM hR ?_
   refine qMg hR ?_
   refine qMg hR ?_
   refine qAg hR rfl rfl rfl (fun _ hS => Yld.neqB hS rfl rfl Try.underlying4) ?_
   refine qB (t := 102) false rfl (by rfl) ?_
   refine qA hR rfl (fun _ hS => Yld.pickF hS rfl rfl) ?_
   refine qM hR ?_
   refine qMg hR ?_
   refine qAg hR rfl rfl rfl (fun _ hS => Yld.fieldAddr hS rfl 7 Try.underlying123 rfl rfl info3 (by decide)) ?_
   refine qAg hR rfl rfl rfl (fun _ hS => Yld.load1 hS rfl Try.underlying3 rfl rdQ) ?_
   refine qAg hR rfl rfl rfl (fun _ hS => Yld.neq hS rfl rfl) ?_
   refine qB (t := 108) false rfl (by simp) ?_
   refine qA hR rfl (fun _ hS => Yld.pickF hS rfl rfl) ?_
   refine qM hR ?_
   refine qMg hR ?_
   refine qMg hR ?_
   refine qAg hR rfl rfl rfl (fun _ hS => Yld.neqB hS rfl rfl Try.underlying4) ?_
   refine qB (t := 113) false rfl (by rfl) ?_
   refine qA hR rfl (fun _ hS => Yld.pickF hS rfl rfl) ?_
   intro aa hS
   refine wpList_nil ?_
   refine hK1135 _ _ ?_
   refine condF hS rfl ?_
   refine wp_skip ?_
   refine hK1134 _ _ ?_
   refine wp_seq_k ?_; intro K1136 hK1136
   refine wp_region_lit ?_
   by_cases hn : (inF T.F i).head?.isSome = true
   ·
    revert aa
    refine qM hR ?_
    intro aa hS
    obtain ⟨f2, hh⟩ := Option.isSome_iff_exists.1 hn
    obtain ⟨fr, hfr⟩ : ∃ y, inF T.F i = f2 :: y := by
     cases hv : inF T.F i with
     | nil => rw [hv] at hh; cases hh
     | cons a b => rw [hv] at hh; cases hh; exact ⟨b, rfl⟩
    have hil : 0 < ((inF T.F i).map hd2).length := by simp [hfr]
    have hx0 : ((inF T.F i).map hd2)[0] = hd2 f2 := by simp [hfr]
    revert aa
    refine qA hR rfl (fun _ hS => Yld.fieldAddr hS rfl 8 Try.underlying67 rfl rfl info3 (by decide)) ?_
    refine qA hR rfl (fun _ hS => Yld.load1 hS rfl Try.underlying3 rfl rdQ) ?_
    intro aa hS
    refine sB (Bcall hS rfl Try.call64 (RfIn_ok (z := i) (hR.pk (r := r16A _ b2 _ _ _) pkQ)) (by decide) ?_); clear hS; intro aa ww vv hS hp
    clear hR
    obtain ⟨rI, cI, rfl, hR⟩ := hp
    revert aa
    refine qN hR ?_
    intro aa hS
    refine wpList_nil ?_
    refine hK1136 _ _ ?_
    refine wp_seq_k ?_; intro K1137 hK1137
    refine wp_region_lit ?_
    revert aa
    refine qM hR ?_
    refine qA hR rfl (fun _ hS => Yld.fieldAddr hS rfl 8 Try.underlying67 rfl rfl info3 (by decide)) ?_
    refine qA hR rfl (fun _ hS => Yld.load1 hS rfl Try.underlying3 rfl rdQ) ?_
    intro aa hS
    refine sB (Bcall hS rfl Try.call24 (TbFirst_ok hh (hR.pk (r := tableA _ b _ _ _) pkQ)) (by decide) ?_); clear hS; intro aa ww vv hS hp
    clear hR
    obtain ⟨rfl, hR⟩ := hp
    revert aa
    refine qM hR ?_
    refine qX hR ?_
    refine qX hR ?_
    intro aa hS
    refine sB (Balloc hS hR info29 (by rfl) (by rfl) (by decide) ?_); clear hS hR; intro aa ww bb23 hS hR
    refine sB (Bstore hS hR rfl rfl (by rfl) info29 (by rfl) pkQ (by rfl) (Nat.le_of_ble_eq_true rfl) ?_); clear hR; intro ww hR
    revert aa
    refine qN hR ?_
    intro aa hS
    refine wpList_nil ?_
    refine hK1137 _ _ ?_
    refine wp_seq_k ?_; intro K1138 hK1138
    refine wp_seq_k ?_; intro K1139 hK1139
    refine drawn krQ hR Ex.refl ?_; clear hR; intro ww hR hR0
    revert aa
    refine eA 0 rfl krQ (fun _ _ _ h => h) hR0 rfl (fun _ hS => Yld.move hS rfl) ?_
    refine qB (t := 126) true rfl (by rfl) ?_
    refine eA 1 rfl krQ (fun _ _ _ h => h) hR0 rfl (fun _ hS => Yld.move hS rfl) ?_
    refine eA 2 rfl krQ (fun _ _ _ h => h) hR0 rfl (fun _ hS => Yld.len hS rfl Try.underlying126) ?_
    refine eA 3 rfl krQ (fun _ _ _ h => h) hR0 rfl (fun _ hS => Yld.gtr hS rfl rfl) ?_
    refine qB (t := 129) true rfl (by exact decide_eq_true (by omega)) ?_
    refine eA 4 rfl krQ (fun _ _ _ h => h) hR0 rfl (fun _ hS => Yld.neqB hS rfl rfl Try.underlying4) ?_
    refine qB (t := 130) false rfl (by rfl) ?_
    refine eA 5 rfl krQ (fun _ _ _ h => h) hR0 rfl (fun _ hS => Yld.move hS rfl) ?_
    refine eAg 6 rfl krQ (fun _ _ _ h => h) hR0 rfl rfl rfl (fun _ hS => Yld.move hS rfl) ?_
    refine qB (t := 132) true rfl (by rfl) ?_
    refine eAg 7 rfl krQ (fun _ _ _ h => h) hR0 rfl rfl rfl (fun _ hS => Yld.move hS rfl) ?_
    intro aa hS
    refine dAg 8 rfl krQ krQ krQ (fun _ _ _ h => h) hS rfl rfl hR0 (Yld.loadAgg hS rfl Try.underlying29 rfl info29 rdsQ2 (by rfl)) (by decide) ?_; clear hS; intro aa hS
    revert aa
    refine eAg 9 rfl krQ (fun _ _ _ h => h) hR0 rfl rfl rfl (fun _ hS => Yld.move hS rfl) ?_
    refine eAg 10 rfl krQ (fun _ _ _ h => h) hR0 rfl rfl rfl (fun _ hS => ilQ 2 (0) Try.underlying126 info112) ?_
    refine eAg 11 rfl krQ (fun _ _ _ h => h) hR0 rfl rfl rfl (fun _ hS => Yld.loadAgg (vs := e2 (hd2 f2)) hS rfl Try.underlying112 rfl info112 (hx0 ▸ Rds.rec (enc := e2) (xs := ((inF T.F i).map hd2)) (k := 0) pkQ (by intro _; rfl) hil) (by rfl)) ?_
    intro aa hS
    replace hS := hS.say (t := 137) (vH (f2.s : Int) f2.u) rfl rfl
    revert aa
    refine eAg 12 rfl krQ (fun _ _ _ h => h) hR0 rfl rfl rfl (fun _ hS => Yld.binRun hS rfl rfl (neq112 _ _ _ _ _ _)) ?_
    refine qB (t := 138) false rfl (by simp) ?_
    refine eAg 13 rfl krQ (fun _ _ _ h => h) hR0 rfl rfl rfl (fun _ hS => Yld.pickT hS rfl rfl) ?_
    refine eA 14 rfl krQ (fun _ _ _ h => h) hR0 rfl (fun _ hS => Yld.pickF hS rfl rfl) ?_
    refine eA 15 rfl krQ (fun _ _ _ h => h) hR0 rfl (fun _ hS => Yld.move hS rfl) ?_
    refine eAg 16 rfl krQ (fun _ _ _ h => h) hR0 rfl rfl rfl (fun _ hS => Yld.move hS rfl) ?_
    refine qB (t := 142) true rfl (by rfl) ?_
    refine eAg 17 rfl krQ (fun _ _ _ h => h) hR0 rfl rfl rfl (fun _ hS => Yld.not hS rfl) ?_
    refine eAg 18 rfl krQ (fun _ _ _ h => h) hR0 rfl rfl rfl (fun _ hS => Yld.move hS rfl) ?_
    refine eZ 19 rfl hR0 ?_
    refine eZ 20 rfl hR0 ?_
    refine eZ 21 rfl hR0 ?_
    refine eAg 22 rfl krQ (fun _ _ _ h => h) hR0 rfl rfl rfl (fun _ hS => Yld.pickF hS rfl rfl) ?_
    refine eA 23 rfl krQ (fun _ _ _ h => h) hR0 rfl (fun _ hS => Yld.pickF hS rfl rfl) ?_
    intro aa hS
    refine wpAnyH_done krQ ?_ _; clear hR0
    refine hK1139 _ _ ?_
    refine condF hS rfl ?_
    refine wp_skip ?_
    refine hK1138 _ _ ?_
    refine wp_seq_k ?_; intro K1140 hK1140
    refine wp_region_lit ?_
    revert aa
    refine qM hR ?_
    refine qA hR rfl (fun _ hS => Yld.fieldAddr hS rfl 1 Try.underlying67 rfl rfl info35 (by decide)) ?_
    refine qA hR rfl (fun _ hS => Yld.fieldAddr hS rfl 1 Try.underlying35 rfl rfl info32 (by decide)) ?_
    refine qA hR rfl (fun _ hS => Yld.load1 hS rfl Try.underlying32 rfl rdQ) ?_
    intro aa hS
    refine sB (Bcall hS rfl Try.call32 (TbFrom_ok (src := k.2.1) hk.s (hR.pk (r := tableA _ b _ _ _) pkQ)) (by decide) ?_); clear hS; intro aa ww vv hS hp
    clear hR
    obtain ⟨rf, cf, rfl, hR⟩ := hp
    revert aa
    refine qN hR ?_
    intro aa hS
    refine wpList_nil ?_
    refine hK1140 _ _ ?_
    refine wp_seq_k ?_; intro K1141 hK1141
    refine wp_region_lit ?_
    revert aa
    refine qM hR ?_
    refine qA hR rfl (fun _ hS => Yld.fieldAddr hS rfl 8 Try.underlying67 rfl rfl info3 (by decide)) ?_
    refine qA hR rfl (fun _ hS => Yld.load1 hS rfl Try.underlying3 rfl rdQ) ?_
    intro aa hS
    refine sB (Bcall hS rfl Try.call14 (TbIn_ok (i := i) (hR.pk (r := tableA _ b _ _ _) pkQ)) (by decide) ?_); clear hS; intro aa ww vv hS hp
    clear hR
    obtain ⟨ri, ci, rfl, hR⟩ := hp
    revert aa
    refine qM hR ?_
    intro aa hS
    refine sB (Bcall hS rfl Try.call65 (handles_ok (xs := ((inF T.F i).map hd2)) (q1 := ri) (q2 := rI) (by omega) ((hR.pk (r := sls rI _ _ _ _ _) pkQ).pk (r := sls ri _ _ _ _ _) pkQ)) (by decide) ?_); clear hS; intro aa ww vv hS hp
    clear hR
    obtain ⟨rfl, hR⟩ := hp
    revert aa
    refine qB (t := 160) true rfl (by rfl) ?_
    refine qM hR ?_
    refine qMg hR ?_
    refine qMg hR ?_
    refine qAg hR rfl rfl rfl (fun _ hS => Yld.fieldAddr hS rfl 1 Try.underlying67 rfl rfl info35 (by decide)) ?_
    refine qAg hR rfl rfl rfl (fun _ hS => Yld.fieldAddr hS rfl 1 Try.underlying35 rfl rfl info32 (by decide)) ?_
    refine qAg hR rfl rfl rfl (fun _ hS => Yld.load1 hS rfl Try.underlying32 rfl rdQ) ?_
    intro aa hS
    refine sBg hS rfl rfl (Bcall hS rfl Try.call66 (RfFrom_ok (src := k.2.1) hk.s (hR.pk (r := r16A _ b2 _ _ _) pkQ)) (by decide) ?_); clear hS; intro aa ww vv hS hp
    clear hR
    obtain ⟨rg, cg, rfl, hR⟩ := hp
    refine sBg hS rfl rfl (Bcall hS rfl Try.call65 (handles_ok (xs := (frmF T.F k.2.1)) (q1 := rf) (q2 := rg) (by omega) ((hR.pk (r := sls rg _ _ _ _ _) pkQ).pk (r := sls rf _ _ _ _ _) pkQ)) (by decide) ?_); clear hS; intro aa ww vv hS hp
    clear hR
    obtain ⟨rfl, hR⟩ := hp
    revert aa
    refine qB (t := 168) true rfl (by rfl) ?_
    refine qA hR rfl (fun _ hS => Yld.pickT hS rfl rfl) ?_
    refine qM hR ?_
    refine qMg hR ?_
    refine qAg hR rfl rfl rfl (fun _ hS => Yld.fieldAddr hS rfl 1 Try.underlying67 rfl rfl info35 (by decide)) ?_
    refine qAg hR rfl rfl rfl (fun _ hS => Yld.fieldAddr hS rfl 1 Try.underlying35 rfl rfl info32 (by decide)) ?_
    refine qAg hR rfl rfl rfl (fun _ hS => Yld.load1 hS rfl Try.underlying32 rfl rdQ) ?_
    intro aa hS
    refine sBg hS rfl rfl (Bcall hS rfl Try.call33 (TbCount_ok (src := k.2.1) hk.s (hR.pk (r := tableA _ b _ _ _) pkQ)) (by decide) ?_); clear hS; intro aa ww vv hS hp
    clear hR
    obtain ⟨rfl, hR⟩ := hp
    revert aa
    refine qMg hR ?_
    refine qAg hR rfl rfl rfl (fun _ hS => Yld.len hS rfl Try.underlying38) ?_
    refine qAg hR rfl rfl rfl (fun _ hS => Yld.eql hS rfl rfl) ?_
    refine qB (t := 178) true rfl (by simp) ?_
    refine qA hR rfl (fun _ hS => Yld.pickT hS rfl rfl) ?_
    refine qN hR ?_
    intro aa hS
    refine wpList_nil ?_
    refine hK1141 _ _ ?_
    refine wp_ret ?_
    repeat first | with_reducible refine thenR ?_ | with_reducible refine blockR ?_ | with_reducible refine scopeR ?_
    refine ret1 (fn := Try.f28) (e := .ret) (.inl rfl) Try.results28 hS hR ⟨_, (.tmp rfl), ?_⟩
    exact ⟨rfl, (hR.sub exQ)⟩
   ·
    revert aa
    refine qM hR ?_
    intro aa hS
    have hh : (inF T.F i).head? = none := by
     cases hv : (inF T.F i).head? with
     | none => rfl
     | some f => rw [hv] at hn; simp at hn
    have hil : ((inF T.F i).map hd2).length = 0 := by rw [inF_nil_of hh]; rfl
    revert aa
    refine qA hR rfl (fun _ hS => Yld.fieldAddr hS rfl 8 Try.underlying67 rfl rfl info3 (by decide)) ?_
    refine qA hR rfl (fun _ hS => Yld.load1 hS rfl Try.underlying3 rfl rdQ) ?_
    intro aa hS
    refine sB (Bcall hS rfl Try.call64 (RfIn_ok (z := i) (hR.pk (r := r16A _ b2 _ _ _) pkQ)) (by decide) ?_); clear hS; intro aa ww vv hS hp
    clear hR
    obtain ⟨rI, cI, rfl, hR⟩ := hp
    revert aa
    refine qN hR ?_
    intro aa hS
    refine wpList_nil ?_
    refine hK1136 _ _ ?_
    refine wp_seq_k ?_; intro K1142 hK1142
    refine wp_region_lit ?_
    revert aa
    refine qM hR ?_
    refine qA hR rfl (fun _ hS => Yld.fieldAddr hS rfl 8 Try.underlying67 rfl rfl info3 (by decide)) ?_
    refine qA hR rfl (fun _ hS => Yld.load1 hS rfl Try.underlying3 rfl rdQ) ?_
    intro aa hS
    refine sB (Bcall hS rfl Try.call24 (TbFirst_no hh (hR.pk (r := tableA _ b _ _ _) pkQ)) (by decide) ?_); clear hS; intro aa ww vv hS hp
    clear hR
    obtain ⟨rfl, hR⟩ := hp
    revert aa
    refine qM hR ?_
    refine qX hR ?_
    refine qX hR ?_
    intro aa hS
    refine sB (Balloc hS hR info29 (by rfl) (by rfl) (by decide) ?_); clear hS hR; intro aa ww bb23 hS hR
    refine sB (Bstore hS hR rfl rfl (by rfl) info29 (by rfl) pkQ (by rfl) (Nat.le_of_ble_eq_true rfl) ?_); clear hR; intro ww hR
    revert aa
    refine qN hR ?_
    intro aa hS
    refine wpList_nil ?_
    refine hK1142 _ _ ?_
    refine wp_seq_k ?_; intro K1143 hK1143
    refine wp_seq_k ?_; intro K1144 hK1144
    refine drawn krQ hR Ex.refl ?_; clear hR; intro ww hR hR0
    revert aa
    refine eA 0 rfl krQ (fun _ _ _ h => h) hR0 rfl (fun _ hS => Yld.move hS rfl) ?_
    refine qB (t := 126) false rfl (by rfl) ?_
    refine eA 1 rfl krQ (fun _ _ _ h => h) hR0 rfl (fun _ hS => Yld.move hS rfl) ?_
    refine eA 2 rfl krQ (fun _ _ _ h => h) hR0 rfl (fun _ hS => Yld.len hS rfl Try.underlying126) ?_
    refine eA 3 rfl krQ (fun _ _ _ h => h) hR0 rfl (fun _ hS => Yld.gtr hS rfl rfl) ?_
    refine qB (t := 129) false rfl (by exact decide_eq_false (by omega)) ?_
    refine eA 4 rfl krQ (fun _ _ _ h => h) hR0 rfl (fun _ hS => Yld.neqB hS rfl rfl Try.underlying4) ?_
    refine qB (t := 130) false rfl (by rfl) ?_
    refine eA 5 rfl krQ (fun _ _ _ h => h) hR0 rfl (fun _ hS => Yld.move hS rfl) ?_
    refine eAg 6 rfl krQ (fun _ _ _ h => h) hR0 rfl rfl rfl (fun _ hS => Yld.move hS rfl) ?_
    refine qB (t := 132) false rfl (by rfl) ?_
    refine eAg 7 rfl krQ (fun _ _ _ h => h) hR0 rfl rfl rfl (fun _ hS => Yld.move hS rfl) ?_
    refine eZ 8 rfl hR0 ?_
    refine eZ 9 rfl hR0 ?_
    refine eZ 10 rfl hR0 ?_
    refine eZ 11 rfl hR0 ?_
    refine eZ 12 rfl hR0 ?_
    refine eAg 13 rfl krQ (fun _ _ _ h => h) hR0 rfl rfl rfl (fun _ hS => Yld.pickF hS rfl rfl) ?_
    refine eA 14 rfl krQ (fun _ _ _ h => h) hR0 rfl (fun _ hS => Yld.pickF hS rfl rfl) ?_
    refine eA 15 rfl krQ (fun _ _ _ h => h) hR0 rfl (fun _ hS => Yld.move hS rfl) ?_
    refine eAg 16 rfl krQ (fun _ _ _ h => h) hR0 rfl rfl rfl (fun _ hS => Yld.move hS rfl) ?_
    refine qB (t := 142) false rfl (by rfl) ?_
    refine eAg 17 rfl krQ (fun _ _ _ h => h) hR0 rfl rfl rfl (fun _ hS => Yld.not hS rfl) ?_
    refine eAg 18 rfl krQ (fun _ _ _ h => h) hR0 rfl rfl rfl (fun _ hS => Yld.move hS rfl) ?_
    intro aa hS
    refine dAg 19 rfl krQ krQ krQ (fun _ _ _ h => h) hS rfl rfl hR0 (Yld.loadAgg hS rfl Try.underlying29 rfl info29 rdsQ2 (by rfl)) (by decide) ?_; clear hS; intro aa hS
    revert aa
    refine eAg 20 rfl krQ (fun _ _ _ h => h) hR0 rfl rfl rfl (fun _ hS => Yld.build hS rfl (bld29_)) ?_
    refine eAg 21 rfl krQ (fun _ _ _ h => h) hR0 rfl rfl rfl (fun _ hS => Yld.binRun hS rfl rfl (neq29 _ _ _ _ _ _)) ?_
    refine qB (t := 147) false rfl (by simp) ?_
    refine eAg 22 rfl krQ (fun _ _ _ h => h) hR0 rfl rfl rfl (fun _ hS => Yld.pickT hS rfl rfl) ?_
    refine eA 23 rfl krQ (fun _ _ _ h => h) hR0 rfl (fun _ hS => Yld.pickF hS rfl rfl) ?_
    intro aa hS
    refine wpAnyH_done krQ ?_ _; clear hR0
    refine hK1144 _ _ ?_
    refine condF hS rfl ?_
    refine wp_skip ?_
    refine hK1143 _ _ ?_
    refine wp_seq_k ?_; intro K1145 hK1145
    refine wp_region_lit ?_
    revert aa
    refine qM hR ?_
    refine qA hR rfl (fun _ hS => Yld.fieldAddr hS rfl 1 Try.underlying67 rfl rfl info35 (by decide)) ?_
    refine qA hR rfl (fun _ hS => Yld.fieldAddr hS rfl 1 Try.underlying35 rfl rfl info32 (by decide)) ?_
    refine qA hR rfl (fun _ hS => Yld.load1 hS rfl Try.underlying32 rfl rdQ) ?_
    intro aa hS
    refine sB (Bcall hS rfl Try.call32 (TbFrom_ok (src := k.2.1) hk.s (hR.pk (r := tableA _ b _ _ _) pkQ)) (by decide) ?_); clear hS; intro aa ww vv hS hp
    clear hR
    obtain ⟨rf, cf, rfl, hR⟩ := hp
    revert aa
    refine qN hR ?_
    intro aa hS
    refine wpList_nil ?_
    refine hK1145 _ _ ?_
    refine wp_seq_k ?_; intro K1146 hK1146
    refine wp_region_lit ?_
    revert aa
    refine qM hR ?_
    refine qA hR rfl (fun _ hS => Yld.fieldAddr hS rfl 8 Try.underlying67 rfl rfl info3 (by decide)) ?_
    refine qA hR rfl (fun _ hS => Yld.load1 hS rfl Try.underlying3 rfl rdQ) ?_
    intro aa hS
    refine sB (Bcall hS rfl Try.call14 (TbIn_ok (i := i) (hR.pk (r := tableA _ b _ _ _) pkQ)) (by decide) ?_); clear hS; intro aa ww vv hS hp
    clear hR
    obtain ⟨ri, ci, rfl, hR⟩ := hp
    revert aa
    refine qM hR ?_
    intro aa hS
    refine sB (Bcall hS rfl Try.call65 (handles_ok (xs := ((inF T.F i).map hd2)) (q1 := ri) (q2 := rI) (by omega) ((hR.pk (r := sls rI _ _ _ _ _) pkQ).pk (r := sls ri _ _ _ _ _) pkQ)) (by decide) ?_); clear hS; intro aa ww vv hS hp
    clear hR
    obtain ⟨rfl, hR⟩ := hp
    revert aa
    refine qB (t := 160) true rfl (by rfl) ?_
    refine qM hR ?_
    refine qMg hR ?_
    refine qMg hR ?_
    refine qAg hR rfl rfl rfl (fun _ hS => Yld.fieldAddr hS rfl 1 Try.underlying67 rfl rfl info35 (by decide)) ?_
    refine qAg hR rfl rfl rfl (fun _ hS => Yld.fieldAddr hS rfl 1 Try.underlying35 rfl rfl info32 (by decide)) ?_
    refine qAg hR rfl rfl rfl (fun _ hS => Yld.load1 hS rfl Try.underlying32 rfl rdQ) ?_
    intro aa hS
    refine sBg hS rfl rfl (Bcall hS rfl Try.call66 (RfFrom_ok (src := k.2.1) hk.s (hR.pk (r := r16A _ b2 _ _ _) pkQ)) (by decide) ?_); clear hS; intro aa ww vv hS hp
    clear hR
    obtain ⟨rg, cg, rfl, hR⟩ := hp
    refine sBg hS rfl rfl (Bcall hS rfl Try.call65 (handles_ok (xs := (frmF T.F k.2.1)) (q1 := rf) (q2 := rg) (by omega) ((hR.pk (r := sls rg _ _ _ _ _) pkQ).pk (r := sls rf _ _ _ _ _) pkQ)) (by decide) ?_); clear hS; intro aa ww vv hS hp
    clear hR
    obtain ⟨rfl, hR⟩ := hp
    revert aa
    refine qB (t := 168) true rfl (by rfl) ?_
    refine qA hR rfl (fun _ hS => Yld.pickT hS rfl rfl) ?_
    refine qM hR ?_
    refine qMg hR ?_
    refine qAg hR rfl rfl rfl (fun _ hS => Yld.fieldAddr hS rfl 1 Try.underlying67 rfl rfl info35 (by decide)) ?_
    refine qAg hR rfl rfl rfl (fun _ hS => Yld.fieldAddr hS rfl 1 Try.underlying35 rfl rfl info32 (by decide)) ?_
    refine qAg hR rfl rfl rfl (fun _ hS => Yld.load1 hS rfl Try.underlying32 rfl rdQ) ?_
    intro aa hS
    refine sBg hS rfl rfl (Bcall hS rfl Try.call33 (TbCount_ok (src := k.2.1) hk.s (hR.pk (r := tableA _ b _ _ _) pkQ)) (by decide) ?_); clear hS; intro aa ww vv hS hp
    clear hR
    obtain ⟨rfl, hR⟩ := hp
    revert aa
    refine qMg hR ?_
    refine qAg hR rfl rfl rfl (fun _ hS => Yld.len hS rfl Try.underlying38) ?_
    refine qAg hR rfl rfl rfl (fun _ hS => Yld.eql hS rfl rfl) ?_
    refine qB (t := 178) true rfl (by simp) ?_
    refine qA hR rfl (fun _ hS => Yld.pickT hS rfl rfl) ?_
    refine qN hR ?_
    intro aa hS
    refine wpList_nil ?_
    refine hK1146 _ _ ?_
    refine wp_ret ?_
    repeat first | with_reducible refine thenR ?_ | with_reducible refine blockR ?_ | with_reducible refine scopeR ?_
    refine ret1 (fn := Try.f28) (e := .ret) (.inl rfl) Try.results28 hS hR ⟨_, (.tmp rfl), ?_⟩
    exact ⟨rfl, (hR.sub exQ)⟩
  ·
   refine sA hS hR (Yld.build hS rfl (bld29_0_1 _ _)) (by decide) ?_; clear hS; intro aa hS
   have hgn : getF T.F s u = none := by
    cases hv : getF T.F s u with
    | none => rfl
    | some f => rw [hv] at hn; simp at hn
   have hat : ¬ T.A.at s = some u := fun h => by have := (getF_at hTF).2 h; rw [hgn] at this; cases this
   refine sB (Balloc hS hR info29 (by rfl) (by rfl) (by decide) ?_); clear hS hR; intro aa ww bb15 hS hR
   refine sB (Bstore hS hR rfl rfl (by rfl) info29 (by rfl) pkQ (by rfl) (Nat.le_of_ble_eq_true rfl) ?_); clear hR; intro ww hR
   refine wpList_nil ?_
   refine hK1130 _ _ ?_
   refine wp_seq_k ?_; intro K1147 hK1147
   refine wp_region_lit ?_
   revert aa
   refine qM hR ?_
   intro aa hS
   refine sA hS hR (Yld.loadAgg hS rfl Try.underlying29 rfl info29 rdsQ2 (by rfl)) (by decide) ?_; clear hS; intro aa hS
   refine sB (Bcall hS rfl Try.call22 (TbKey_no hat (hR.pk (r := tableA _ b _ _ _) pkQ)) (by decide) ?_); clear hS; intro aa ww vv hS hp
   clear hR
   obtain ⟨rfl, hR⟩ := hp
   revert aa
   refine qM hR ?_
   refine qX hR ?_
   refine qX hR ?_
   intro aa hS
   refine sB (Balloc hS hR info35 (by rfl) (by rfl) (by decide) ?_); clear hS hR; intro aa ww bb16 hS hR
   refine sB (Bstore hS hR rfl rfl (by rfl) info35 (by rfl) pkQ (by rfl) (Nat.le_of_ble_eq_true rfl) ?_); clear hR; intro ww hR
   revert aa
   refine qN hR ?_
   intro aa hS
   refine wpList_nil ?_
   refine hK1147 _ _ ?_
   refine wp_seq_k ?_; intro K1148 hK1148
   refine wp_region_lit ?_
   revert aa
   refine qM hR ?_
   intro aa hS
   refine sA hS hR (Yld.loadAgg hS rfl Try.underlying29 rfl info29 rdsQ2 (by rfl)) (by decide) ?_; clear hS; intro aa hS
   refine sB (Bcall hS rfl Try.call13 (TbList_no hat (hR.pk (r := tableA _ b _ _ _) pkQ)) (by decide) ?_); clear hS; intro aa ww vv hS hp
   clear hR
   obtain ⟨rfl, hR⟩ := hp
   revert aa
   refine qM hR ?_
   refine qX hR ?_
   refine qX hR ?_
   refine qN hR ?_
   refine qN hR ?_
   intro aa hS
   refine wpList_nil ?_
   refine hK1148 _ _ ?_
   refine wp_seq_k ?_; intro K1149 hK1149
   refine wp_region_lit ?_
   revert aa
   refine qM hR ?_
   intro aa hS
   refine sA hS hR (Yld.loadAgg hS rfl Try.underlying29 rfl info29 rdsQ2 (by rfl)) (by decide) ?_; clear hS; intro aa hS
   refine sB (Bcall hS rfl Try.call63 (RfAt_ok (s := s) (u := u) (hR.pk (r := r16A _ b2 _ _ _) pkQ)) (by decide) ?_); clear hS; intro aa ww vv hS hp
   clear hR
   obtain ⟨rfl, hR⟩ := hp
   unfold atF at hS
   rw [hgn] at hS
   dsimp only [Option.getD, Option.isSome] at hS
   revert aa
   refine qM hR ?_
   refine qX hR ?_
   refine qX hR ?_
   intro aa hS
   refine sB (Balloc hS hR info123 (by rfl) (by rfl) (by decide) ?_); clear hS hR; intro aa ww bb20 hS hR
   refine sB (Bstore hS hR rfl rfl (by rfl) info123 (by rfl) pkQ (by rfl) (Nat.le_of_ble_eq_true rfl) ?_); clear hR; intro ww hR
   revert aa
   refine qN hR ?_
   intro aa hS
   refine wpList_nil ?_
   refine hK1149 _ _ ?_
   refine wp_seq_k ?_; intro K1150 hK1150
   refine wp_seq_k ?_; intro K1151 hK1151
   refine wp_region_lit ?_
   refine sA hS hR (Yld.loadAgg hS rfl Try.underlying35 rfl info35 rdsQ5 (by rfl)) (by decide) ?_; clear hS; intro aa hS
   refine sA hS hR (Yld.fieldAddr hS rfl 2 Try.underlying123 rfl rfl info35 (by decide)) (by decide) ?_; clear hS; intro aa hS
   refine sA hS hR (Yld.loadAgg hS rfl Try.underlying35 rfl info35 rdsQ5 (by rfl)) (by decide) ?_; clear hS; intro aa hS
   revert aa
   refine qA hR rfl (fun _ hS => Yld.binRun hS rfl rfl (neq35 _ _ _ _ _ _ _ _ _ _ _ _)) ?_
   refine qB (t := 98) false rfl (by simp) ?_
   refine qM hR ?_
   refine qMg hR ?_
   refine qMg hR ?_
   refine qAg hR rfl rfl rfl (fun _ hS => Yld.neqB hS rfl rfl Try.underlying4) ?_
   refine qB (t := 102) false rfl (by rfl) ?_
   refine qA hR rfl (fun _ hS => Yld.pickF hS rfl rfl) ?_
   refine qM hR ?_
   refine qMg hR ?_
   refine qAg hR rfl rfl rfl (fun _ hS => Yld.fieldAddr hS rfl 7 Try.underlying123 rfl rfl info3 (by decide)) ?_
   refine qAg hR rfl rfl rfl (fun _ hS => Yld.load1 hS rfl Try.underlying3 rfl rdQ) ?_
   refine qAg hR rfl rfl rfl (fun _ hS => Yld.neq hS rfl rfl) ?_
   refine qB (t := 108) false rfl (by simp) ?_
   refine qA hR rfl (fun _ hS => Yld.pickF hS rfl rfl) ?_
   refine qM hR ?_
   refine qMg hR ?_
   refine qMg hR ?_
   refine qAg hR rfl rfl rfl (fun _ hS => Yld.neqB hS rfl rfl Try.underlying4) ?_
   refine qB (t := 113) false rfl (by rfl) ?_
   refine qA hR rfl (fun _ hS => Yld.pickF hS rfl rfl) ?_
   intro aa hS
   refine wpList_nil ?_
   refine hK1151 _ _ ?_
   refine condF hS rfl ?_
   refine wp_skip ?_
   refine hK1150 _ _ ?_
   refine wp_seq_k ?_; intro K1152 hK1152
   refine wp_region_lit ?_
   by_cases hn : (inF T.F i).head?.isSome = true
   ·
    revert aa
    refine qM hR ?_
    intro aa hS
    obtain ⟨f2, hh⟩ := Option.isSome_iff_exists.1 hn
    obtain ⟨fr, hfr⟩ : ∃ y, inF T.F i = f2 :: y := by
     cases hv : inF T.F i with
     | nil => rw [hv] at hh; cases hh
     | cons a b => rw [hv] at hh; cases hh; exact ⟨b, rfl⟩
    have hil : 0 < ((inF T.F i).map hd2).length := by simp [hfr]
    have hx0 : ((inF T.F i).map hd2)[0] = hd2 f2 := by simp [hfr]
    revert aa
    refine qA hR rfl (fun _ hS => Yld.fieldAddr hS rfl 8 Try.underlying67 rfl rfl info3 (by decide)) ?_
    refine qA hR rfl (fun _ hS => Yld.load1 hS rfl Try.underlying3 rfl rdQ) ?_
    intro aa hS
    refine sB (Bcall hS rfl Try.call64 (RfIn_ok (z := i) (hR.pk (r := r16A _ b2 _ _ _) pkQ)) (by decide) ?_); clear hS; intro aa ww vv hS hp
    clear hR
    obtain ⟨rI, cI, rfl, hR⟩ := hp
    revert aa
    refine qN hR ?_
    intro aa hS
    refine wpList_nil ?_
    refine hK1152 _ _ ?_
    refine wp_seq_k ?_; intro K1153 hK1153
    refine wp_region_lit ?_
    revert aa
    refine qM hR ?_
    refine qA hR rfl (fun _ hS => Yld.fieldAddr hS rfl 8 Try.underlying67 rfl rfl info3 (by decide)) ?_
    refine qA hR rfl (fun _ hS => Yld.load1 hS rfl Try.underlying3 rfl rdQ) ?_
    intro aa hS
    refine sB (Bcall hS rfl Try.call24 (TbFirst_ok hh (hR.pk (r := tableA _ b _ _ _) pkQ)) (by decide) ?_); clear hS; intro aa ww vv hS hp
    clear hR
    obtain ⟨rfl, hR⟩ := hp
    revert aa
    refine qM hR ?_
    refine qX hR ?_
    refine qX hR ?_
    intro aa hS
    refine sB (Balloc hS hR info29 (by rfl) (by rfl) (by decide) ?_); clear hS hR; intro aa ww bb23 hS hR
    refine sB (Bstore hS hR rfl rfl (by rfl) info29 (by rfl) pkQ (by rfl) (Nat.le_of_ble_eq_true rfl) ?_); clear hR; intro ww hR
    revert aa
    refine qN hR ?_
    intro aa hS
    refine wpList_nil ?_
    refine hK1153 _ _ ?_
    refine wp_seq_k ?_; intro K1154 hK1154
    refine wp_seq_k ?_; intro K1155 hK1155
    refine drawn krQ hR Ex.refl ?_; clear hR; intro ww hR hR0
    revert aa
    refine eA 0 rfl krQ (fun _ _ _ h => h) hR0 rfl (fun _ hS => Yld.move hS rfl) ?_
    refine qB (t := 126) true rfl (by rfl) ?_
    refine eA 1 rfl krQ (fun _ _ _ h => h) hR0 rfl (fun _ hS => Yld.move hS rfl) ?_
    refine eA 2 rfl krQ (fun _ _ _ h => h) hR0 rfl (fun _ hS => Yld.len hS rfl Try.underlying126) ?_
    refine eA 3 rfl krQ (fun _ _ _ h => h) hR0 rfl (fun _ hS => Yld.gtr hS rfl rfl) ?_
    refine qB (t := 129) true rfl (by exact decide_eq_true (by omega)) ?_
    refine eA 4 rfl krQ (fun _ _ _ h => h) hR0 rfl (fun _ hS => Yld.neqB hS rfl rfl Try.underlying4) ?_
    refine qB (t := 130) false rfl (by rfl) ?_
    refine eA 5 rfl krQ (fun _ _ _ h => h) hR0 rfl (fun _ hS => Yld.move hS rfl) ?_
    refine eAg 6 rfl krQ (fun _ _ _ h => h) hR0 rfl rfl rfl (fun _ hS => Yld.move hS rfl) ?_
    refine qB (t := 132) true rfl (by rfl) ?_
    refine eAg 7 rfl krQ (fun _ _ _ h => h) hR0 rfl rfl rfl (fun _ hS => Yld.move hS rfl) ?_
    intro aa hS
    refine dAg 8 rfl krQ krQ krQ (fun _ _ _ h => h) hS rfl rfl hR0 (Yld.loadAgg hS rfl Try.underlying29 rfl info29 rdsQ2 (by rfl)) (by decide) ?_; clear hS; intro aa hS
    revert aa
    refine eAg 9 rfl krQ (fun _ _ _ h => h) hR0 rfl rfl rfl (fun _ hS => Yld.move hS rfl) ?_
    refine eAg 10 rfl krQ (fun _ _ _ h => h) hR0 rfl rfl rfl (fun _ hS => ilQ 2 (0) Try.underlying126 info112) ?_
    refine eAg 11 rfl krQ (fun _ _ _ h => h) hR0 rfl rfl rfl (fun _ hS => Yld.loadAgg (vs := e2 (hd2 f2)) hS rfl Try.underlying112 rfl info112 (hx0 ▸ Rds.rec (enc := e2) (xs := ((inF T.F i).map hd2)) (k := 0) pkQ (by intro _; rfl) hil) (by rfl)) ?_
    intro aa hS
    replace hS := hS.say (t := 137) (vH (f2.s : Int) f2.u) rfl rfl
    revert aa
    refine eAg 12 rfl krQ (fun _ _ _ h => h) hR0 rfl rfl rfl (fun _ hS => Yld.binRun hS rfl rfl (neq112 _ _ _ _ _ _)) ?_
    refine qB (t := 138) false rfl (by simp) ?_
    refine eAg 13 rfl krQ (fun _ _ _ h => h) hR0 rfl rfl rfl (fun _ hS => Yld.pickT hS rfl rfl) ?_
    refine eA 14 rfl krQ (fun _ _ _ h => h) hR0 rfl (fun _ hS => Yld.pickF hS rfl rfl) ?_
    refine eA 15 rfl krQ (fun _ _ _ h => h) hR0 rfl (fun _ hS => Yld.move hS rfl) ?_
    refine eAg 16 rfl krQ (fun _ _ _ h => h) hR0 rfl rfl rfl (fun _ hS => Yld.move hS rfl) ?_
    refine qB (t := 142) true rfl (by rfl) ?_
    refine eAg 17 rfl krQ (fun _ _ _ h => h) hR0 rfl rfl rfl (fun _ hS => Yld.not hS rfl) ?_
    refine eAg 18 rfl krQ (fun _ _ _ h => h) hR0 rfl rfl rfl (fun _ hS => Yld.move hS rfl) ?_
    refine eZ 19 rfl hR0 ?_
    refine eZ 20 rfl hR0 ?_
    refine eZ 21 rfl hR0 ?_
    refine eAg 22 rfl krQ (fun _ _ _ h => h) hR0 rfl rfl rfl (fun _ hS => Yld.pickF hS rfl rfl) ?_
    refine eA 23 rfl krQ (fun _ _ _ h => h) hR0 rfl (fun _ hS => Yld.pickF hS rfl rfl) ?_
    intro aa hS
    refine wpAnyH_done krQ ?_ _; clear hR0
    refine hK1155 _ _ ?_
    refine condF hS rfl ?_
    refine wp_skip ?_
    refine hK1154 _ _ ?_
    refine wp_seq_k ?_; intro K1156 hK1156
    refine wp_region_lit ?_
    revert aa
    refine qM hR ?_
    refine qA hR rfl (fun _ hS => Yld.fieldAddr hS rfl 1 Try.underlying67 rfl rfl info35 (by decide)) ?_
    refine qA hR rfl (fun _ hS => Yld.fieldAddr hS rfl 1 Try.underlying35 rfl rfl info32 (by decide)) ?_
    refine qA hR rfl (fun _ hS => Yld.load1 hS rfl Try.underlying32 rfl rdQ) ?_
    intro aa hS
    refine sB (Bcall hS rfl Try.call32 (TbFrom_ok (src := k.2.1) hk.s (hR.pk (r := tableA _ b _ _ _) pkQ)) (by decide) ?_); clear hS; intro aa ww vv hS hp
    clear hR
    obtain ⟨rf, cf, rfl, hR⟩ := hp
    revert aa
    refine qN hR ?_
    intro aa hS
    refine wpList_nil ?_
    refine hK1156 _ _ ?_
    refine wp_seq_k ?_; intro K1157 hK1157
    refine wp_region_lit ?_
    revert aa
    refine qM hR ?_
    refine qA hR rfl (fun _ hS => Yld.fieldAddr hS rfl 8 Try.underlying67 rfl rfl info3 (by decide)) ?_
    refine qA hR rfl (fun _ hS => Yld.load1 hS rfl Try.underlying3 rfl rdQ) ?_
    intro aa hS
    refine sB (Bcall hS rfl Try.call14 (TbIn_ok (i := i) (hR.pk (r := tableA _ b _ _ _) pkQ)) (by decide) ?_); clear hS; intro aa ww vv hS hp
    clear hR
    obtain ⟨ri, ci, rfl, hR⟩ := hp
    revert aa
    refine qM hR ?_
    intro aa hS
    refine sB (Bcall hS rfl Try.call65 (handles_ok (xs := ((inF T.F i).map hd2)) (q1 := ri) (q2 := rI) (by omega) ((hR.pk (r := sls rI _ _ _ _ _) pkQ).pk (r := sls ri _ _ _ _ _) pkQ)) (by decide) ?_); clear hS; intro aa ww vv hS hp
    clear hR
    obtain ⟨rfl, hR⟩ := hp
    revert aa
    refine qB (t := 160) true rfl (by rfl) ?_
    refine qM hR ?_
    refine qMg hR ?_
    refine qMg hR ?_
    refine qAg hR rfl rfl rfl (fun _ hS => Yld.fieldAddr hS rfl 1 Try.underlying67 rfl rfl info35 (by decide)) ?_
    refine qAg hR rfl rfl rfl (fun _ hS => Yld.fieldAddr hS rfl 1 Try.underlying35 rfl rfl info32 (by decide)) ?_
    refine qAg hR rfl rfl rfl (fun _ hS => Yld.load1 hS rfl Try.underlying32 rfl rdQ) ?_
    intro aa hS
    refine sBg hS rfl rfl (Bcall hS rfl Try.call66 (RfFrom_ok (src := k.2.1) hk.s (hR.pk (r := r16A _ b2 _ _ _) pkQ)) (by decide) ?_); clear hS; intro aa ww vv hS hp
    clear hR
    obtain ⟨rg, cg, rfl, hR⟩ := hp
    refine sBg hS rfl rfl (Bcall hS rfl Try.call65 (handles_ok (xs := (frmF T.F k.2.1)) (q1 := rf) (q2 := rg) (by omega) ((hR.pk (r := sls rg _ _ _ _ _) pkQ).pk (r := sls rf _ _ _ _ _) pkQ)) (by decide) ?_); clear hS; intro aa ww vv hS hp
    clear hR
    obtain ⟨rfl, hR⟩ := hp
    revert aa
    refine qB (t := 168) true rfl (by rfl) ?_
    refine qA hR rfl (fun _ hS => Yld.pickT hS rfl rfl) ?_
    refine qM hR ?_
    refine qMg hR ?_
    refine qAg hR rfl rfl rfl (fun _ hS => Yld.fieldAddr hS rfl 1 Try.underlying67 rfl rfl info35 (by decide)) ?_
    refine qAg hR rfl rfl rfl (fun _ hS => Yld.fieldAddr hS rfl 1 Try.underlying35 rfl rfl info32 (by decide)) ?_
    refine qAg hR rfl rfl rfl (fun _ hS => Yld.load1 hS rfl Try.underlying32 rfl rdQ) ?_
    intro aa hS
    refine sBg hS rfl rfl (Bcall hS rfl Try.call33 (TbCount_ok (src := k.2.1) hk.s (hR.pk (r := tableA _ b _ _ _) pkQ)) (by decide) ?_); clear hS; intro aa ww vv hS hp
    clear hR
    obtain ⟨rfl, hR⟩ := hp
    revert aa
    refine qMg hR ?_
    refine qAg hR rfl rfl rfl (fun _ hS => Yld.len hS rfl Try.underlying38) ?_
    refine qAg hR rfl rfl rfl (fun _ hS => Yld.eql hS rfl rfl) ?_
    refine qB (t := 178) true rfl (by simp) ?_
    refine qA hR rfl (fun _ hS => Yld.pickT hS rfl rfl) ?_
    refine qN hR ?_
    intro aa hS
    refine wpList_nil ?_
    refine hK1157 _ _ ?_
    refine wp_ret ?_
    repeat first | with_reducible refine thenR ?_ | with_reducible refine blockR ?_ | with_reducible refine scopeR ?_
    refine ret1 (fn := Try.f28) (e := .ret) (.inl rfl) Try.results28 hS hR ⟨_, (.tmp rfl), ?_⟩
    exact ⟨rfl, (hR.sub exQ)⟩
   ·
    revert aa
    refine qM hR ?_
    intro aa hS
    have hh : (inF T.F i).head? = none := by
     cases hv : (inF T.F i).head? with
     | none => rfl
     | some f => rw [hv] at hn; simp at hn
    have hil : ((inF T.F i).map hd2).length = 0 := by rw [inF_nil_of hh]; rfl
    revert aa
    refine qA hR rfl (fun _ hS => Yld.fieldAddr hS rfl 8 Try.underlying67 rfl rfl info3 (by decide)) ?_
    refine qA hR rfl (fun _ hS => Yld.load1 hS rfl Try.underlying3 rfl rdQ) ?_
    intro aa hS
    refine sB (Bcall hS rfl Try.call64 (RfIn_ok (z := i) (hR.pk (r := r16A _ b2 _ _ _) pkQ)) (by decide) ?_); clear hS; intro aa ww vv hS hp
    clear hR
    obtain ⟨rI, cI, rfl, hR⟩ := hp
    revert aa
    refine qN hR ?_
    intro aa hS
    refine wpList_nil ?_
    refine hK1152 _ _ ?_
    refine wp_seq_k ?_; intro K1158 hK1158
    refine wp_region_lit ?_
    revert aa
    refine qM hR ?_
    refine qA hR rfl (fun _ hS => Yld.fieldAddr hS rfl 8 Try.underlying67 rfl rfl info3 (by decide)) ?_
    refine qA hR rfl (fun _ hS => Yld.load1 hS rfl Try.underlying3 rfl rdQ) ?_
    intro aa hS
    refine sB (Bcall hS rfl Try.call24 (TbFirst_no hh (hR.pk (r := tableA _ b _ _ _) pkQ)) (by decide) ?_); clear hS; intro aa ww vv hS hp
    clear hR
    obtain ⟨rfl, hR⟩ := hp
    revert aa
    refine qM hR ?_
    refine qX hR ?_
    refine qX hR ?_
    intro aa hS
    refine sB (Balloc hS hR info29 (by rfl) (by rfl) (by decide) ?_); clear hS hR; intro aa ww bb23 hS hR
    refine sB (Bstore hS hR rfl rfl (by rfl) info29 (by rfl) pkQ (by rfl) (Nat.le_of_ble_eq_true rfl) ?_); clear hR; intro ww hR
    revert aa
    refine qN hR ?_
    intro aa hS
    refine wpList_nil ?_
    refine hK1158 _ _ ?_
    refine wp_seq_k ?_; intro K1159 hK1159
    refine wp_seq_k ?_; intro K1160 hK1160
    refine drawn krQ hR Ex.refl ?_; clear hR; intro ww hR hR0
    revert aa
    refine eA 0 rfl krQ (fun _ _ _ h => h) hR0 rfl (fun _ hS => Yld.move hS rfl) ?_
    refine qB (t := 126) false rfl (by rfl) ?_
    refine eA 1 rfl krQ (fun _ _ _ h => h) hR0 rfl (fun _ hS => Yld.move hS rfl) ?_
    refine eA 2 rfl krQ (fun _ _ _ h => h) hR0 rfl (fun _ hS => Yld.len hS rfl Try.underlying126) ?_
    refine eA 3 rfl krQ (fun _ _ _ h => h) hR0 rfl (fun _ hS => Yld.gtr hS rfl rfl) ?_
    refine qB (t := 129) false rfl (by exact decide_eq_false (by omega)) ?_
    refine eA 4 rfl krQ (fun _ _ _ h => h) hR0 rfl (fun _ hS => Yld.neqB hS rfl rfl Try.underlying4) ?_
    refine qB (t := 130) false rfl (by rfl) ?_
    refine eA 5 rfl krQ (fun _ _ _ h => h) hR0 rfl (fun _ hS => Yld.move hS rfl) ?_
    refine eAg 6 rfl krQ (fun _ _ _ h => h) hR0 rfl rfl rfl (fun _ hS => Yld.move hS rfl) ?_
    refine qB (t := 132) false rfl (by rfl) ?_
    refine eAg 7 rfl krQ (fun _ _ _ h => h) hR0 rfl rfl rfl (fun _ hS => Yld.move hS rfl) ?_
    refine eZ 8 rfl hR0 ?_
    refine eZ 9 rfl hR0 ?_
    refine eZ 10 rfl hR0 ?_
    refine eZ 11 rfl hR0 ?_
    refine eZ 12 rfl hR0 ?_
    refine eAg 13 rfl krQ (fun _ _ _ h => h) hR0 rfl rfl rfl (fun _ hS => Yld.pickF hS rfl rfl) ?_
    refine eA 14 rfl krQ (fun _ _ _ h => h) hR0 rfl (fun _ hS => Yld.pickF hS rfl rfl) ?_
    refine eA 15 rfl krQ (fun _ _ _ h => h) hR0 rfl (fun _ hS => Yld.move hS rfl) ?_
    refine eAg 16 rfl krQ (fun _ _ _ h => h) hR0 rfl rfl rfl (fun _ hS => Yld.move hS rfl) ?_
    refine qB (t := 142) false rfl (by rfl) ?_
    refine eAg 17 rfl krQ (fun _ _ _ h => h) hR0 rfl rfl rfl (fun _ hS => Yld.not hS rfl) ?_
    refine eAg 18 rfl krQ (fun _ _ _ h => h) hR0 rfl rfl rfl (fun _ hS => Yld.move hS rfl) ?_
    intro aa hS
    refine dAg 19 rfl krQ krQ krQ (fun _ _ _ h => h) hS rfl rfl hR0 (Yld.loadAgg hS rfl Try.underlying29 rfl info29 rdsQ2 (by rfl)) (by decide) ?_; clear hS; intro aa hS
    revert aa
    refine eAg 20 rfl krQ (fun _ _ _ h => h) hR0 rfl rfl rfl (fun _ hS => Yld.build hS rfl (bld29_)) ?_
    refine eAg 21 rfl krQ (fun _ _ _ h => h) hR0 rfl rfl rfl (fun _ hS => Yld.binRun hS rfl rfl (neq29 _ _ _ _ _ _)) ?_
    refine qB (t := 147) false rfl (by simp) ?_
    refine eAg 22 rfl krQ (fun _ _ _ h => h) hR0 rfl rfl rfl (fun _ hS => Yld.pickT hS rfl rfl) ?_
    refine eA 23 rfl krQ (fun _ _ _ h => h) hR0 rfl (fun _ hS => Yld.pickF hS rfl rfl) ?_
    intro aa hS
    refine wpAnyH_done krQ ?_ _; clear hR0
    refine hK1160 _ _ ?_
    refine condF hS rfl ?_
    refine wp_skip ?_
    refine hK1159 _ _ ?_
    refine wp_seq_k ?_; intro K1161 hK1161
    refine wp_region_lit ?_
    revert aa
    refine qM hR ?_
    refine qA hR rfl (fun _ hS => Yld.fieldAddr hS rfl 1 Try.underlying67 rfl rfl info35 (by decide)) ?_
    refine qA hR rfl (fun _ hS => Yld.fieldAddr hS rfl 1 Try.underlying35 rfl rfl info32 (by decide)) ?_
    refine qA hR rfl (fun _ hS => Yld.load1 hS rfl Try.underlying32 rfl rdQ) ?_
    intro aa hS
    refine sB (Bcall hS rfl Try.call32 (TbFrom_ok (src := k.2.1) hk.s (hR.pk (r := tableA _ b _ _ _) pkQ)) (by decide) ?_); clear hS; intro aa ww vv hS hp
    clear hR
    obtain ⟨rf, cf, rfl, hR⟩ := hp
    revert aa
    refine qN hR ?_
    intro aa hS
    refine wpList_nil ?_
    refine hK1161 _ _ ?_
    refine wp_seq_k ?_; intro K1162 hK1162
    refine wp_region_lit ?_
    revert aa
    refine qM hR ?_
    refine qA hR rfl (fun _ hS => Yld.fieldAddr hS rfl 8 Try.underlying67 rfl rfl info3 (by decide)) ?_
    refine qA hR rfl (fun _ hS => Yld.load1 hS rfl Try.underlying3 rfl rdQ) ?_
    intro aa hS
    refine sB (Bcall hS rfl Try.call14 (TbIn_ok (i := i) (hR.pk (r := tableA _ b _ _ _) pkQ)) (by decide) ?_); clear hS; intro aa ww vv hS hp
    clear hR
    obtain ⟨ri, ci, rfl, hR⟩ := hp
    revert aa
    refine qM hR ?_
    intro aa hS
    refine sB (Bcall hS rfl Try.call65 (handles_ok (xs := ((inF T.F i).map hd2)) (q1 := ri) (q2 := rI) (by omega) ((hR.pk (r := sls rI _ _ _ _ _) pkQ).pk (r := sls ri _ _ _ _ _) pkQ)) (by decide) ?_); clear hS; intro aa ww vv hS hp
    clear hR
    obtain ⟨rfl, hR⟩ := hp
    revert aa
    refine qB (t := 160) true rfl (by rfl) ?_
    refine qM hR ?_
    refine qMg hR ?_
    refine qMg hR ?_
    refine qAg hR rfl rfl rfl (fun _ hS => Yld.fieldAddr hS rfl 1 Try.underlying67 rfl rfl info35 (by decide)) ?_
    refine qAg hR rfl rfl rfl (fun _ hS => Yld.fieldAddr hS rfl 1 Try.underlying35 rfl rfl info32 (by decide)) ?_
    refine qAg hR rfl rfl rfl (fun _ hS => Yld.load1 hS rfl Try.underlying32 rfl rdQ) ?_
    intro aa hS
    refine sBg hS rfl rfl (Bcall hS rfl Try.call66 (RfFrom_ok (src := k.2.1) hk.s (hR.pk (r := r16A _ b2 _ _ _) pkQ)) (by decide) ?_); clear hS; intro aa ww vv hS hp
    clear hR
    obtain ⟨rg, cg, rfl, hR⟩ := hp
    refine sBg hS rfl rfl (Bcall hS rfl Try.call65 (handles_ok (xs := (frmF T.F k.2.1)) (q1 := rf) (q2 := rg) (by omega) ((hR.pk (r := sls rg _ _ _ _ _) pkQ).pk (r := sls rf _ _ _ _ _) pkQ)) (by decide) ?_); clear hS; intro aa ww vv hS hp
    clear hR
    obtain ⟨rfl, hR⟩ := hp
    revert aa
    refine qB (t := 168) true rfl (by rfl) ?_
    refine qA hR rfl (fun _ hS => Yld.pickT hS rfl rfl) ?_
    refine qM hR ?_
    refine qMg hR ?_
    refine qAg hR rfl rfl rfl (fun _ hS => Yld.fieldAddr hS rfl 1 Try.underlying67 rfl rfl info35 (by decide)) ?_
    refine qAg hR rfl rfl rfl (fun _ hS => Yld.fieldAddr hS rfl 1 Try.underlying35 rfl rfl info32 (by decide)) ?_
    refine qAg hR rfl rfl rfl (fun _ hS => Yld.load1 hS rfl Try.underlying32 rfl rdQ) ?_
    intro aa hS
    refine sBg hS rfl rfl (Bcall hS rfl Try.call33 (TbCount_ok (src := k.2.1) hk.s (hR.pk (r := tableA _ b _ _ _) pkQ)) (by decide) ?_); clear hS; intro aa ww vv hS hp
    clear hR
    obtain ⟨rfl, hR⟩ := hp
    revert aa
    refine qMg hR ?_
    refine qAg hR rfl rfl rfl (fun _ hS => Yld.len hS rfl Try.underlying38) ?_
    refine qAg hR rfl rfl rfl (fun _ hS => Yld.eql hS rfl rfl) ?_
    refine qB (t := 178) true rfl (by simp) ?_
    refine qA hR rfl (fun _ hS => Yld.pickT hS rfl rfl) ?_
    refine qN hR ?_
    intro aa hS
    refine wpList_nil ?_
    refine hK1162 _ _ ?_
    refine wp_ret ?_
    repeat first | with_reducible refine thenR ?_ | with_reducible refine blockR ?_ | with_reducible refine scopeR ?_
    refine ret1 (fn := Try.f28) (e := .ret) (.inl rfl) Try.results28 hS hR ⟨_, (.tmp rfl), ?_⟩
    exact ⟨rfl, (hR.sub exQ)⟩
set_option maxHeartbeats 4000000 in
theorem same16_ok {T : Tb} {S n b b2 : Nat} {l : List HP} {w : World} (hn8 : n ≤ 8) (hR : Sep (tableA tt b S n T :: r16A rt b2 S n T :: l) w) : CallR Try.prog 30 [.pointer (some ⟨b, 0, none⟩), .pointer (some ⟨b2, 0, none⟩)] w (fun v w' => v = .bool true ∧ Sep (tableA tt b S n T :: r16A rt b2 S n T :: l) w') := by
 refine enter Try.func30 rfl Try.ntmps30 (Nat.le_of_ble_eq_true rfl) ?_; intro aa hS
 obtain ⟨ba0, r0, c0, hTF, hS4, hR0⟩ := (hR.pk (r := r16A _ b2 _ _ _) pkQ).r16E
 clear hR0
 have hFl := hTF.len
 have hal : (allF T.F).length ≤ T.F.length := by unfold allF; rw [List.length_map, hTF.srtLen]; exact Nat.le_refl _
 have hsz := hTF.size
 refine wp_seq_k ?_; intro K1163 hK1163
 refine wp_region_lit ?_
 revert aa
 refine qN hR ?_
 intro aa hS
 refine wpList_nil ?_
 refine hK1163 _ _ ?_
 refine wp_seq_k ?_; intro K1164 hK1164
 refine wp_seq_k ?_; intro K1165 hK1165
 refine wp_region_lit ?_
 revert aa
 refine qN hR ?_
 intro aa hS
 refine wpList_nil ?_
 refine hK1165 _ _ ?_
 refine wp_block ?_
 replace hR := hR.pk (r := r16A rt b2 S n T) pkQ
 refine loopI (X := Int) [(0, _), (1, _)] (fun x => [(5, .int .i64 x)]) (fun x => [r16A rt b2 S n T]) _ (fun x => -1 ≤ x ∧ x ≤ (n : Int) + 1) (fun x => ((n : Int) + 1 - x).toNat) (-1) (by omega) (hS.le (Le.cons rfl (Le.nilapp (Le.cons rfl (Le.cons rfl (Le.nil _)))))) hR ?_
 clear hS hR; rintro z aa ww hI hS hR; dsimp only [List.cons_append, List.nil_append] at hI hS hR
 obtain ⟨ba, r, c, hTF, hS4, hR⟩ := (hR.pk (r := r16A _ b2 _ _ _) pkQ).r16E
 have hFl := hTF.len
 have hrc := (hR.pk (r := sls r _ _ _ _ _) pkQ).slsLe.1
 refine wp_seq_k ?_; intro K1167 hK1167
 refine wp_seq_k ?_; intro K1168 hK1168
 refine wp_region_lit ?_
 revert aa
 refine qM hR ?_
 refine qM hR ?_
 refine qA hR rfl (fun _ hS => Yld.nilCheck hS rfl) ?_
 refine qA hR rfl (fun _ hS => Yld.fieldAddr hS rfl 2 Try.underlying111 rfl rfl info3 (by decide)) ?_
 refine qA hR rfl (fun _ hS => Yld.load1 hS rfl Try.underlying3 rfl rdQ) ?_
 refine qA hR rfl (fun _ hS => Yld.leq hS rfl rfl) ?_
 intro aa hS
 refine wpList_nil ?_
 refine hK1168 _ _ ?_
 refine hS.splitB (t := 11) rfl ?_ ?_ <;> clear hS
 ·
  intro hg hS
  replace hR := Sep.r16J (t := rt) (b := b2) (n := n) (T := T) hTF hS4 (hR.sub exQ)
  refine condT hS rfl ?_
  refine wp_skip ?_
  refine hK1167 _ _ ?_
  refine wp_seq_k ?_; intro K1169 hK1169
  refine wp_block ?_
  refine wp_seq_k ?_; intro K1170 hK1170
  refine wp_region_lit ?_
  revert aa
  refine qM hR ?_
  refine qM hR ?_
  intro aa hS
  refine sB (Bcall hS rfl Try.call14 (TbIn_ok (i := z) (hR.pk (r := tableA _ b _ _ _) pkQ)) (by decide) ?_); clear hS; intro aa ww vv hS hp
  clear hR
  obtain ⟨ri, ci, rfl, hR⟩ := hp
  have hinl : ((inF T.F z).map hd2).length ≤ T.F.length := by rw [List.length_map]; exact inF_len
  revert aa
  refine qM hR ?_
  refine qM hR ?_
  intro aa hS
  refine sB (Bcall hS rfl Try.call64 (RfIn_ok (z := z) (hR.pk (r := r16A _ b2 _ _ _) pkQ)) (by decide) ?_); clear hS; intro aa ww vv hS hp
  clear hR
  obtain ⟨rI, cI, rfl, hR⟩ := hp
  refine sB (Bcall hS rfl Try.call65 (handles_ok (xs := ((inF T.F z).map hd2)) (q1 := ri) (q2 := rI) (by omega) ((hR.pk (r := sls rI _ _ _ _ _) pkQ).pk (r := sls ri _ _ _ _ _) pkQ)) (by decide) ?_); clear hS; intro aa ww vv hS hp
  clear hR
  obtain ⟨rfl, hR⟩ := hp
  revert aa
  refine qB (t := 20) true rfl (by rfl) ?_
  refine qA hR rfl (fun _ hS => Yld.not hS rfl) ?_
  refine qB (t := 21) false rfl (by rfl) ?_
  intro aa hS
  refine wpList_nil ?_
  refine hK1170 _ _ ?_
  refine condF hS rfl ?_
  refine wp_skip ?_
  refine hK1169 _ _ ?_
  refine wp_region_lit ?_
  revert aa
  refine qM hR ?_
  intro aa hS
  refine sA hS hR adQ (by decide) ?_; clear hS; intro aa hS
  revert aa
  refine qN hR ?_
  intro aa hS
  refine wpList_nil ?_
  refine ⟨(z + 1), ?_, ?_, hS.le (Le.cons rfl (Le.nilapp (Le.cons rfl (Le.cons rfl (Le.nil _))))), hR.sub (Ex.take pkQ (Ex.nilapp exQ))⟩
  ·
   omega
  ·
   omega
 ·
  intro hg hS
  replace hR := Sep.r16J (t := rt) (b := b2) (n := n) (T := T) hTF hS4 (hR.sub exQ)
  refine condF hS rfl ?_
  refine wp_exit ?_
  refine hK1164 _ _ ?_
  refine wp_seq_k ?_; intro K1171 hK1171
  refine drawn krQ hR (Ex.of_pk (r := r16A _ b2 _ _ _) pkQ) ?_; clear hR; intro ww hR hR0
  revert aa
  refine eA 0 rfl krQ (fun _ _ _ h => h) hR0 rfl (fun _ hS => Yld.move hS rfl) ?_
  refine eA 2 rfl krQ (fun _ _ _ h => h) hR0 rfl (fun _ hS => Yld.move hS rfl) ?_
  intro aa hS
  refine dOne (i := 1) krQ ?_
  refine dop rfl (Bcall hS rfl Try.call29 (TbAll_ok (hR.pk (r := tableA _ b _ _ _) pkQ)) (by decide) ?_); clear hS; intro aa ww vv hS hp
  clear hR hR0
  obtain ⟨ra, ca, rfl, hR⟩ := hp
  refine dnext (hR.sub exQ) ?_; intro hR0
  refine dOne (i := 3) krQ ?_
  refine dop rfl (Bcall hS rfl Try.call69 (RfAll_ok (hR.pk (r := r16A _ b2 _ _ _) pkQ)) (by decide) ?_); clear hS; intro aa ww vv hS hp
  clear hR hR0
  obtain ⟨rA, cA, rfl, hR⟩ := hp
  refine dnext (hR.sub exQ) ?_; intro hR0
  obtain ⟨ba, r, c, hTF, hS4, hR⟩ := (hR.pk (r := r16A _ b2 _ _ _) pkQ).r16E
  have hFl := hTF.len
  have hrc := (hR.pk (r := sls r _ _ _ _ _) pkQ).slsLe.1
  obtain ⟨q1, d1, q2, d2, q3, d3, hAr, hR⟩ := (hR.pk (r := rar _ _ _ ba _) pkQ).rarE
  refine strongH hR exQ ?_; clear hR0; intro hR0
  refine dOne (i := 4) krQ ?_
  refine dop rfl (Bcall hS rfl Try.call65 (handles_ok (xs := (allF T.F)) (q1 := ra) (q2 := rA) (by omega) ((hR.pk (r := sls rA _ _ _ _ _) pkQ).pk (r := sls ra _ _ _ _ _) pkQ)) (by decide) ?_); clear hS; intro aa ww vv hS hp
  clear hR hR0
  obtain ⟨rfl, hR⟩ := hp
  refine dnext (hR.sub exQ) ?_; intro hR0
  revert aa
  refine qB (t := 26) true rfl (by rfl) ?_
  refine eA 5 rfl krQ (fun _ _ _ h => h) hR0 rfl (fun _ hS => Yld.move hS rfl) ?_
  refine eAg 6 rfl krQ (fun _ _ _ h => h) hR0 rfl rfl rfl (fun _ hS => Yld.move hS rfl) ?_
  refine eAg 8 rfl krQ (fun _ _ _ h => h) hR0 rfl rfl rfl (fun _ hS => Yld.move hS rfl) ?_
  refine eAg 9 rfl krQ (fun _ _ _ h => h) hR0 rfl rfl rfl (fun _ hS => Yld.nilCheck hS rfl) ?_
  refine eAg 10 rfl krQ (fun _ _ _ h => h) hR0 rfl rfl rfl (fun _ hS => Yld.fieldAddr hS rfl 0 Try.underlying111 rfl rfl info109 (by decide)) ?_
  refine eAg 11 rfl krQ (fun _ _ _ h => h) hR0 rfl rfl rfl (fun _ hS => Yld.load1 hS rfl Try.underlying109 rfl rdQ) ?_
  refine eAg 12 rfl krQ (fun _ _ _ h => h) hR0 rfl rfl rfl (fun _ hS => Yld.len hS rfl Try.underlying109) ?_
  intro aa hS
  refine dOne (i := 7) krQ ?_
  refine dopg rfl hS rfl rfl (Bcall hS rfl Try.call19 (TbLen_ok (hR.pk (r := tableA _ b _ _ _) pkQ)) (by decide) ?_); clear hS; intro aa ww vv hS hp
  clear hR hR0
  obtain ⟨rfl, hR⟩ := hp
  refine dnext (hR.sub exQ) ?_; intro hR0
  revert aa
  refine eAg 13 rfl krQ (fun _ _ _ h => h) hR0 rfl rfl rfl (fun _ hS => Yld.eql hS rfl rfl) ?_
  refine qB (t := 35) true rfl (by simp) ?_
  refine eA 14 rfl krQ (fun _ _ _ h => h) hR0 rfl (fun _ hS => Yld.pickT hS rfl rfl) ?_
  refine eA 15 rfl krQ (fun _ _ _ h => h) hR0 rfl (fun _ hS => Yld.move hS rfl) ?_
  refine eAg 16 rfl krQ (fun _ _ _ h => h) hR0 rfl rfl rfl (fun _ hS => Yld.move hS rfl) ?_
  refine eAg 18 rfl krQ (fun _ _ _ h => h) hR0 rfl rfl rfl (fun _ hS => Yld.move hS rfl) ?_
  refine eAg 19 rfl krQ (fun _ _ _ h => h) hR0 rfl rfl rfl (fun _ hS => Yld.nilCheck hS rfl) ?_
  refine eAg 20 rfl krQ (fun _ _ _ h => h) hR0 rfl rfl rfl (fun _ hS => Yld.fieldAddr hS rfl 1 Try.underlying111 rfl rfl info107 (by decide)) ?_
  refine eAg 21 rfl krQ (fun _ _ _ h => h) hR0 rfl rfl rfl (fun _ hS => Yld.load1 hS rfl Try.underlying107 rfl rdQ) ?_
  refine eAg 22 rfl krQ (fun _ _ _ h => h) hR0 rfl rfl rfl (fun _ hS => Yld.nilCheck hS rfl) ?_
  refine eAg 23 rfl krQ (fun _ _ _ h => h) hR0 rfl rfl rfl (fun _ hS => Yld.fieldAddr hS rfl 1 Try.underlying135 rfl rfl info58 (by decide)) ?_
  refine eAg 24 rfl krQ (fun _ _ _ h => h) hR0 rfl rfl rfl (fun _ hS => Yld.load1 hS rfl Try.underlying58 rfl rdQ) ?_
  refine eAg 25 rfl krQ (fun _ _ _ h => h) hR0 rfl rfl rfl (fun _ hS => Yld.len hS rfl Try.underlying58) ?_
  refine eAg 26 rfl krQ (fun _ _ _ h => h) hR0 rfl rfl rfl (fun _ hS => Yld.move hS rfl) ?_
  refine eAg 27 rfl krQ (fun _ _ _ h => h) hR0 rfl rfl rfl (fun _ hS => Yld.nilCheck hS rfl) ?_
  refine eAg 28 rfl krQ (fun _ _ _ h => h) hR0 rfl rfl rfl (fun _ hS => Yld.fieldAddr hS rfl 0 Try.underlying111 rfl rfl info109 (by decide)) ?_
  refine eAg 29 rfl krQ (fun _ _ _ h => h) hR0 rfl rfl rfl (fun _ hS => Yld.load1 hS rfl Try.underlying109 rfl rdQ) ?_
  refine eAg 30 rfl krQ (fun _ _ _ h => h) hR0 rfl rfl rfl (fun _ hS => Yld.len hS rfl Try.underlying109) ?_
  intro aa hS
  refine dAg 31 rfl krQ krQ krQ (fun _ _ _ h => h) hS rfl rfl hR0 suQ (by decide) ?_; clear hS; intro aa hS
  refine dOne (i := 17) krQ ?_
  refine dopg rfl hS rfl rfl (Bcall hS rfl Try.call20 (TbRoom_ok (hR.pk (r := tableA _ b _ _ _) pkQ)) (by decide) ?_); clear hS; intro aa ww vv hS hp
  clear hR hR0
  obtain ⟨rfl, hR⟩ := hp
  refine dnext (hR.sub exQ) ?_; intro hR0
  revert aa
  refine eAg 32 rfl krQ (fun _ _ _ h => h) hR0 rfl rfl rfl (fun _ hS => Yld.eql hS rfl rfl) ?_
  refine qB (t := 54) true rfl (by exact decide_eq_true (by omega)) ?_
  refine eA 33 rfl krQ (fun _ _ _ h => h) hR0 rfl (fun _ hS => Yld.pickT hS rfl rfl) ?_
  refine eA 34 rfl krQ (fun _ _ _ h => h) hR0 rfl (fun _ hS => Yld.assign hS rfl) ?_
  intro aa hS
  refine wpAnyH_done krQ ?_ _; clear hR0
  refine hK1171 _ _ ?_
  refine wp_ret ?_
  repeat first | with_reducible refine thenR ?_ | with_reducible refine blockR ?_ | with_reducible refine scopeR ?_
  refine ret1 (fn := Try.f30) (e := .ret) (.inl rfl) Try.results30 hS hR ⟨_, (.tmp rfl), ?_⟩
  have hA2 := hAr
  have h9 : Sep (rar rt.A rt.I rt.B ba T.A :: _) _ := Sep.rarI (TR := rt.A) (TI := rt.I) (TB := rt.B) (b := ba) (A := T.A) hAr rfl rfl rfl (hR.sub exQ : Sep (_ :: _ :: _ :: _ :: blk b2 [.slice r T.F.length c, .pointer (some ⟨ba, 0, none⟩), .int .i64 (n : Int)] rt.R :: sls r T.F.length c rt.F 8 (T.F.flatMap eF) :: tableA tt b S n T :: l) _)
  clear hR
  have hR := h9
  have h8 : Sep (r16A rt b2 S n T :: tableA tt b S n T :: l) _ := Sep.r16J (t := rt) (b := b2) (n := n) (T := T) hTF hS4 (hR.sub exQ)
  exact ⟨rfl, h8.swap⟩
end Go.Proofs.Ythhndmlfgjcgpaa.Sx
