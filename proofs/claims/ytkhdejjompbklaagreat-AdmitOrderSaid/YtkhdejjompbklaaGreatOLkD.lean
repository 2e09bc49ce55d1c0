/-
 
-/
import Derived.Test.YtkhdejjompbklaaGreatOLkC
namespace Go.Proofs.YtkhdejjompbklaaGreat.Sx
open Go
set_option maxRecDepth 20000
set_option linter.unusedVariables false
set_option linter.unusedSimpArgs false
theorem bld178_0_1 (x0 : Int) (x1 : Int) (w : World) : (Instr.build 178 [(0, .int .i64 x0), (1, .int .i64 x1)].toArray).run Tryz.prog w = .ok (.agg [.int .i64 x0, .int .i64 x1].toArray) w := by kernel_rfl
theorem bld180_0_1 (x0_0 : Int) (x0_1 : Int) (x1 : Int) (w : World) : (Instr.build 180 [(0, .agg [.int .i64 x0_0, .int .i64 x0_1].toArray), (1, .int .i64 x1)].toArray).run Tryz.prog w = .ok (.agg [.int .i64 x0_0, .int .i64 x0_1, .int .i64 x1].toArray) w := by kernel_rfl
theorem bld183_0_1_2_3_4 (x0_a : Option Addr) (x0_n x0_c : Nat) (x1 : Int) (x2_a : Option Addr) (x2_n x2_c : Nat) (x3_a : Option Addr) (x3_n x3_c : Nat) (x4_a : Option Addr) (x4_n x4_c : Nat) (w : World) : (Instr.build 183 [(0, .slice x0_a x0_n x0_c), (1, .int .i64 x1), (2, .slice x2_a x2_n x2_c), (3, .slice x3_a x3_n x3_c), (4, .slice x4_a x4_n x4_c)].toArray).run Tryz.prog w = .ok (.agg [.slice x0_a x0_n x0_c, .int .i64 x1, .slice x2_a x2_n x2_c, .slice x3_a x3_n x3_c, .slice x4_a x4_n x4_c].toArray) w := by kernel_rfl
set_option maxHeartbeats 4000000 in
theorem LNew_ok {S n : Nat} {l : List HP} {w : World} (hR : Sep l w) (h1 : 1 ≤ S) (h2 : S ≤ 8192) (h3 : 1 ≤ n) (h4 : n ≤ 4096) : CallR Tryz.prog 108 [.int .i64 (S : Int), .int .i64 (n : Int)] w (fun v w' => ∃ b, v = .tuple [.pointer (some ⟨b, 0, none⟩), .int .i64 0].toArray ∧ Sep (linksA 183 180 3 b S n (fun _ => []) :: l) w') := by
 refine enter Tryz.func108 rfl Tryz.ntmps108 (Nat.le_of_ble_eq_true rfl) ?_; intro aa hS
 refine wp_seq_k ?_; intro K263 hK263
 refine wp_region_lit ?_
 revert aa
 refine qN hR ?_
 refine qN hR ?_
 intro aa hS
 refine wpList_nil ?_
 refine hK263 _ _ ?_
 refine wp_seq_k ?_; intro K264 hK264
 refine wp_seq_k ?_; intro K265 hK265
 refine wp_region_lit ?_
 revert aa
 refine qM hR ?_
 refine qA hR rfl (fun _ hS => Yld.lss hS rfl rfl) ?_
 refine qB (t := 10) false rfl (by exact decide_eq_false (by omega)) ?_
 refine qM hR ?_
 refine qMg hR ?_
 refine qAg hR rfl rfl rfl (fun _ hS => Yld.gtr hS rfl rfl) ?_
 refine qB (t := 13) false rfl (by exact decide_eq_false (by omega)) ?_
 refine qA hR rfl (fun _ hS => Yld.pickF hS rfl rfl) ?_
 refine qM hR ?_
 refine qMg hR ?_
 refine qAg hR rfl rfl rfl (fun _ hS => Yld.lss hS rfl rfl) ?_
 refine qB (t := 17) false rfl (by exact decide_eq_false (by omega)) ?_
 refine qA hR rfl (fun _ hS => Yld.pickF hS rfl rfl) ?_
 refine qM hR ?_
 refine qMg hR ?_
 refine qAg hR rfl rfl rfl (fun _ hS => Yld.gtr hS rfl rfl) ?_
 refine qB (t := 21) false rfl (by exact decide_eq_false (by omega)) ?_
 refine qA hR rfl (fun _ hS => Yld.pickF hS rfl rfl) ?_
 intro aa hS
 refine wpList_nil ?_
 refine hK265 _ _ ?_
 refine condF hS rfl ?_
 refine wp_skip ?_
 refine hK264 _ _ ?_
 refine wp_seq_k ?_; intro K266 hK266
 have tail266 : ∀ (z1 z2 z3 z4 x5 : Nat) (aa : Act) (ww : World), Has 85 aa [(0, .int .i64 (S : Int)), (1, .int .i64 (n : Int)), (6, .pointer (some ⟨x5, 0, none⟩))] → Sep (blk x5 [.slice (some ⟨z1, 0, none⟩) ((S : Int) + (n : Int)).toNat ((S : Int) + (n : Int)).toNat, .int .i64 (S : Int), .slice (some ⟨z2, 0, none⟩) ((n : Int)).toNat ((n : Int)).toNat, .slice (some ⟨z3, 0, none⟩) ((n : Int)).toNat ((n : Int)).toNat, .slice (some ⟨z4, 0, none⟩) ((n : Int)).toNat ((n : Int)).toNat] 183 :: blk z1 (zeros [.int .i64 0, .int .i64 0, .int .i64 0] ((S : Int) + (n : Int)).toNat) 180 :: blk z2 (zeros [.int .i64 0] ((n : Int)).toNat) 3 :: blk z3 (zeros [.int .i64 0] ((n : Int)).toNat) 3 :: blk z4 (zeros [.int .i64 0] ((n : Int)).toNat) 3 :: l) ww → K266 aa ww := by
  clear hS hR; intro z1 z2 z3 z4 x5 aa ww hS hR
  refine hK266 _ _ ?_
  rw [show ((S : Int) + (n : Int)).toNat = S + n from by omega, show ((n : Int)).toNat = n from by omega] at hR
  replace hR := hR.pk (r := blk z1 _ _) pkQ
  try rw [new_nodes (S := S)] at hR
  replace hR := Sep.toRecs (m := S + n) (sz := 3) (enc := eL) (nods (S + n) (newP S 0) (newR1 0)) hR rfl (by intro _; rfl) (by first | rw [nods_len] | rw [tabN_len])
  replace hR := hR.pk (r := blk z2 _ _) pkQ
  try rw [new_tab] at hR
  replace hR := Sep.toRecs (m := n) (sz := 1) (enc := e1) (tabN n (newI 0)) hR rfl (by intro _; rfl) (by first | rw [nods_len] | rw [tabN_len])
  replace hR := hR.pk (r := blk z3 _ _) pkQ
  try rw [new_tab] at hR
  replace hR := Sep.toRecs (m := n) (sz := 1) (enc := e1) (tabN n (newI 0)) hR rfl (by intro _; rfl) (by first | rw [nods_len] | rw [tabN_len])
  replace hR := hR.pk (r := blk z4 _ _) pkQ
  try rw [new_tab] at hR
  replace hR := Sep.toRecs (m := n) (sz := 1) (enc := e1) (tabN n (newI 0)) hR rfl (by intro _; rfl) (by first | rw [nods_len] | rw [tabN_len])
  obtain ⟨r1, hr1⟩ : ∃ r : Option Addr, (some ⟨z1, 0, none⟩ : Option Addr) = r := ⟨_, rfl⟩
  rw [hr1] at hR
  have hb1 : Bk r1 := by rw [← hr1]; rfl
  obtain ⟨r2, hr2⟩ : ∃ r : Option Addr, (some ⟨z2, 0, none⟩ : Option Addr) = r := ⟨_, rfl⟩
  rw [hr2] at hR
  have hb2 : Bk r2 := by rw [← hr2]; rfl
  obtain ⟨r3, hr3⟩ : ∃ r : Option Addr, (some ⟨z3, 0, none⟩ : Option Addr) = r := ⟨_, rfl⟩
  rw [hr3] at hR
  have hb3 : Bk r3 := by rw [← hr3]; rfl
  obtain ⟨r4, hr4⟩ : ∃ r : Option Addr, (some ⟨z4, 0, none⟩ : Option Addr) = r := ⟨_, rfl⟩
  rw [hr4] at hR
  have hb4 : Bk r4 := by rw [← hr4]; rfl
  refine wp_seq_k ?_; intro K267 hK267
  refine wp_seq_k ?_; intro K268 hK268
  refine wp_region_lit ?_
  revert aa
  refine qM hR ?_
  refine qM hR ?_
  intro aa hS
  refine wpList_nil ?_
  refine hK268 _ _ ?_
  refine wp_block ?_
  replace hR := hR.pk (r := sls r1 (S + n) (S + n) 180 3 ((nods (S + n) (newP S 0) (newR1 0)).flatMap eL)) pkQ
  refine loopI (X := Nat) [(0, _), (1, _), (6, _), (36, _)] (fun x => [(37, .int .i64 (x : Int))]) (fun x => [sls r1 (S + n) (S + n) 180 3 ((nods (S + n) (newP S 0) (newR1 x)).flatMap eL)]) _ (fun x => x ≤ S) (fun x => S - x) 0 (Nat.zero_le _) (hS.le (Le.cons rfl (Le.nilapp (Le.cons rfl (Le.cons rfl (Le.cons rfl (Le.cons rfl (Le.nil _)))))))) hR ?_
  clear hS hR; rintro j aa ww hI hS hR; dsimp only [List.cons_append, List.nil_append] at hI hS hR
  refine wp_seq_k ?_; intro K270 hK270
  refine wp_region_lit ?_
  refine sA hS hR (Yld.lss hS rfl rfl) (by decide) ?_; clear hS; intro aa hS
  refine wpList_nil ?_
  refine hK270 _ _ ?_
  refine wp_seq_k ?_; intro K271 hK271
  refine hS.splitB (t := 38) rfl ?_ ?_ <;> clear hS
  ·
   intro hg hS
   refine condT hS rfl ?_
   refine wp_skip ?_
   refine hK271 _ _ ?_
   refine wp_seq_k ?_; intro K272 hK272
   refine wp_block ?_
   refine wp_seq_k ?_; intro K273 hK273
   refine wp_region_lit ?_
   revert aa
   refine qM hR ?_
   refine qN hR ?_
   intro aa hS
   refine wpList_nil ?_
   refine hK273 _ _ ?_
   refine wp_region_lit ?_
   revert aa
   refine qM hR ?_
   refine qA hR rfl (fun _ hS => Yld.nilCheck hS rfl) ?_
   refine qA hR rfl (fun _ hS => Yld.fieldAddr hS rfl 0 Tryz.underlying183 rfl rfl info181 (by decide)) ?_
   refine qA hR rfl (fun _ hS => Yld.load1 hS rfl Tryz.underlying181 rfl rdQ) ?_
   refine qM hR ?_
   refine qA hR rfl (fun _ hS => ihQ 3 (j) Tryz.underlying181 info180) ?_
   refine qA hR rfl (fun _ hS => Yld.fieldAddr hS rfl 2 Tryz.underlying180 rfl rfl info3 (by decide)) ?_
   intro aa hS
   refine sB (BstoreNR hS hR rfl rfl info3 rfl pkQ (by omega) ?_); clear hR; intro ww hR
   rw [newR1_step] at hR
   refine wpList_nil ?_
   refine hK272 _ _ ?_
   refine wp_region_lit ?_
   refine sA hS hR adQ (by decide) ?_; clear hS; intro aa hS
   revert aa
   refine qM hR ?_
   intro aa hS
   refine wpList_nil ?_
   refine ⟨j + 1, ?_, ?_, hS.le (Le.cons rfl (Le.nilapp (Le.cons rfl (Le.cons rfl (Le.cons rfl (Le.cons rfl (Le.nil _))))))), hR.sub (Ex.take pkQ (Ex.nilapp exQ))⟩
   ·
    omega
   ·
    omega
  ·
   intro hg hS
   obtain rfl : S = j := by omega
   refine condF hS rfl ?_
   refine wp_exit ?_
   refine hK267 _ _ ?_
   refine wp_seq_k ?_; intro K274 hK274
   refine wp_seq_k ?_; intro K275 hK275
   refine wp_region_lit ?_
   revert aa
   refine qM hR ?_
   refine qM hR ?_
   intro aa hS
   refine wpList_nil ?_
   refine hK275 _ _ ?_
   refine wp_block ?_
   rw [newR1_all] at hR
   replace hR := hR.pk (r := sls r3 n n 3 1 ((tabN n (newI 0)).flatMap e1)) pkQ
   replace hR := hR.pk (r := sls r2 n n 3 1 ((tabN n (newI 0)).flatMap e1)) pkQ
   replace hR := hR.pk (r := sls r1 (S + n) (S + n) 180 3 ((nods (S + n) (newP S 0) (newR S 0)).flatMap eL)) pkQ
   refine loopI (X := Nat) [(0, _), (6, _), (48, _)] (fun x => [(49, .int .i64 (x : Int))]) (fun x => [sls r1 (S + n) (S + n) 180 3 ((nods (S + n) (newP S x) (newR S x)).flatMap eL), sls r2 n n 3 1 ((tabN n (newI x)).flatMap e1), sls r3 n n 3 1 ((tabN n (newI x)).flatMap e1)]) _ (fun x => x ≤ n) (fun x => n - x) 0 (Nat.zero_le _) (hS.le (Le.cons rfl (Le.nilapp (Le.cons rfl (Le.cons rfl (Le.cons rfl (Le.nil _))))))) hR ?_
   clear hS hR; rintro j aa ww hI hS hR; dsimp only [List.cons_append, List.nil_append] at hI hS hR
   refine wp_seq_k ?_; intro K277 hK277
   refine wp_region_lit ?_
   refine sA hS hR (Yld.lss hS rfl rfl) (by decide) ?_; clear hS; intro aa hS
   refine wpList_nil ?_
   refine hK277 _ _ ?_
   refine wp_seq_k ?_; intro K278 hK278
   refine hS.splitB (t := 50) rfl ?_ ?_ <;> clear hS
   ·
    intro hg hS
    refine condT hS rfl ?_
    refine wp_skip ?_
    refine hK278 _ _ ?_
    refine wp_seq_k ?_; intro K279 hK279
    refine wp_block ?_
    refine wp_seq_k ?_; intro K280 hK280
    refine wp_region_lit ?_
    revert aa
    refine qM hR ?_
    refine qN hR ?_
    intro aa hS
    refine wpList_nil ?_
    refine hK280 _ _ ?_
    refine wp_seq_k ?_; intro K281 hK281
    refine drawn krQ hR (Ex.of_pk2 (r := sls r2 _ _ _ _ _) (s := sls r3 _ _ _ _ _) pkQ pkQ) ?_; clear hR; intro ww hR hR0
    revert aa
    refine eA 0 rfl krQ (fun _ _ _ h => h) hR0 rfl (fun _ hS => Yld.move hS rfl) ?_
    refine eA 1 rfl krQ (fun _ _ _ h => h) hR0 rfl (fun _ hS => Yld.nilCheck hS rfl) ?_
    refine eA 2 rfl krQ (fun _ _ _ h => h) hR0 rfl (fun _ hS => Yld.fieldAddr hS rfl 2 Tryz.underlying183 rfl rfl info36 (by decide)) ?_
    intro aa hS
    refine dA 3 rfl krQ krQ krQ (fun _ _ _ h => h) hS hR0 (Yld.load1 hS rfl Tryz.underlying36 rfl rdQ) (by decide) ?_; clear hS; intro aa hS
    revert aa
    refine eA 4 rfl krQ (fun _ _ _ h => h) hR0 rfl (fun _ hS => Yld.move hS rfl) ?_
    refine eA 5 rfl krQ (fun _ _ _ h => h) hR0 rfl (fun _ hS => Yld.move hS rfl) ?_
    refine eA 6 rfl krQ (fun _ _ _ h => h) hR0 rfl (fun _ hS => Yld.nilCheck hS rfl) ?_
    refine eA 7 rfl krQ (fun _ _ _ h => h) hR0 rfl (fun _ hS => Yld.fieldAddr hS rfl 3 Tryz.underlying183 rfl rfl info36 (by decide)) ?_
    refine eA 8 rfl krQ (fun _ _ _ h => h) hR0 rfl (fun _ hS => Yld.load1 hS rfl Tryz.underlying36 rfl rdQ) ?_
    refine eA 9 rfl krQ (fun _ _ _ h => h) hR0 rfl (fun _ hS => Yld.move hS rfl) ?_
    refine eA 10 rfl krQ (fun _ _ _ h => h) hR0 rfl (fun _ hS => Yld.move hS rfl) ?_
    refine eA 11 rfl krQ (fun _ _ _ h => h) hR0 rfl (fun _ hS => Yld.move hS rfl) ?_
    refine eA 12 rfl krQ (fun _ _ _ h => h) hR0 rfl (fun _ hS => ihQ 1 (j) Tryz.underlying36 info3) ?_
    intro aa hS
    refine dOne (i := 13) krQ ?_
    refine dop rfl (BstoreT hS hR rfl rfl info3 rfl pkQ (by omega) ?_); clear hR hR0; intro ww hR
    refine dnext (hR.sub exQ) ?_; intro hR0
    rw [newI_step] at hR
    revert aa
    refine eA 14 rfl krQ (fun _ _ _ h => h) hR0 rfl (fun _ hS => ihQ 1 (j) Tryz.underlying36 info3) ?_
    intro aa hS
    refine dOne (i := 15) krQ ?_
    refine dop rfl (BstoreT hS hR rfl rfl info3 rfl pkQ (by omega) ?_); clear hR hR0; intro ww hR
    refine dnext (hR.sub exQ) ?_; intro hR0
    rw [newI_step] at hR
    refine wpAnyH_done krQ ?_ _; clear hR0
    refine hK281 _ _ ?_
    refine wp_region_lit ?_
    revert aa
    refine qM hR ?_
    refine qA hR rfl (fun _ hS => Yld.nilCheck hS rfl) ?_
    refine qA hR rfl (fun _ hS => Yld.fieldAddr hS rfl 0 Tryz.underlying183 rfl rfl info181 (by decide)) ?_
    intro aa hS
    refine sA hS hR (Yld.load1 hS rfl Tryz.underlying181 rfl rdQ) (by decide) ?_; clear hS; intro aa hS
    revert aa
    refine qM hR ?_
    refine qM hR ?_
    intro aa hS
    refine sA hS hR adQ (by decide) ?_; clear hS; intro aa hS
    replace hS := hS.say (t := 72) (.int .i64 ((S + j : Nat) : Int)) rfl (by rw [Int.natCast_add])
    revert aa
    refine qM hR ?_
    refine qM hR ?_
    intro aa hS
    refine sA hS hR adQ (by decide) ?_; clear hS; intro aa hS
    replace hS := hS.say (t := 75) (.int .i64 ((S + j : Nat) : Int)) rfl (by rw [Int.natCast_add])
    revert aa
    refine qM hR ?_
    refine qM hR ?_
    intro aa hS
    refine sA hS hR adQ (by decide) ?_; clear hS; intro aa hS
    replace hS := hS.say (t := 78) (.int .i64 ((S + j : Nat) : Int)) rfl (by rw [Int.natCast_add])
    revert aa
    refine qA hR rfl (fun _ hS => Yld.build hS rfl (bld178_0_1 _ _)) ?_
    refine qM hR ?_
    refine qA hR rfl (fun _ hS => Yld.build hS rfl (bld180_0_1 _ _ _)) ?_
    refine qA hR rfl (fun _ hS => ihQ 3 (S + j) Tryz.underlying181 info180) ?_
    intro aa hS
    refine sB (BstoreR0 (((fun _ => ((S + j : Nat) : Int), ((j : Nat) : Int)) : Nl)) hS hR rfl rfl (by rfl) info180 (by rfl) pkQ (by rfl) (by intro _; rfl) (by first | omega | (rw [nods_len]; omega) | (rw [tabN_len]; omega)) (by first | exact Nat.le_of_ble_eq_true rfl | (simp only [List.length_singleton]; omega)) (Nat.le_of_ble_eq_true rfl) (by rw [nods_get]; rfl) ?_); clear hR; intro ww hR
    rw [new_step] at hR
    refine wpList_nil ?_
    refine hK279 _ _ ?_
    refine wp_region_lit ?_
    refine sA hS hR adQ (by decide) ?_; clear hS; intro aa hS
    revert aa
    refine qM hR ?_
    intro aa hS
    refine wpList_nil ?_
    refine ⟨j + 1, ?_, ?_, hS.le (Le.cons rfl (Le.nilapp (Le.cons rfl (Le.cons rfl (Le.cons rfl (Le.nil _)))))), hR.sub (Ex.take pkQ (Ex.take pkQ (Ex.take pkQ (Ex.nilapp exQ))))⟩
    ·
     omega
    ·
     omega
   ·
    intro hg hS
    obtain rfl : n = j := by omega
    refine condF hS rfl ?_
    refine wp_exit ?_
    refine hK274 _ _ ?_
    refine wp_seq_k ?_; intro K282 hK282
    refine wp_region_lit ?_
    revert aa
    refine qM hR ?_
    refine qN hR ?_
    refine qN hR ?_
    intro aa hS
    refine wpList_nil ?_
    refine hK282 _ _ ?_
    refine wp_ret ?_
    repeat first | with_reducible refine thenR ?_ | with_reducible refine blockR ?_ | with_reducible refine scopeR ?_
    refine retN (fn := Tryz.f108) (e := .ret) (.inl rfl) Tryz.results108 hS hR ⟨_, .cons (.tmp rfl) (.cons (.tmp rfl) (.nil)), rfl, ?_⟩
    exact ⟨_, rfl, Sep.linksAI (LW.new' h1 h2 h3 h4) rfl (hR.sub exQ)⟩
 refine drawn krQ hR Ex.refl ?_; clear hR; intro ww hR hR0
 revert aa
 refine eA 0 rfl krQ (fun _ _ _ h => h) hR0 rfl (fun _ hS => Yld.move hS rfl) ?_
 refine eA 1 rfl krQ (fun _ _ _ h => h) hR0 rfl (fun _ hS => Yld.move hS rfl) ?_
 intro aa hS
 refine dA 2 rfl krQ krQ krQ (fun _ _ _ h => h) hS hR0 adQ (by decide) ?_; clear hS; intro aa hS
 revert aa
 refine eA 4 rfl krQ (fun _ _ _ h => h) hR0 rfl (fun _ hS => Yld.move hS rfl) ?_
 refine eA 5 rfl krQ (fun _ _ _ h => h) hR0 rfl (fun _ hS => Yld.move hS rfl) ?_
 refine eA 7 rfl krQ (fun _ _ _ h => h) hR0 rfl (fun _ hS => Yld.move hS rfl) ?_
 refine eA 9 rfl krQ (fun _ _ _ h => h) hR0 rfl (fun _ hS => Yld.move hS rfl) ?_
 intro aa hS
 refine dFour (i := 3) (j := 6) (m := 8) (q := 10) krQ ?_ ?_ ?_ ?_
 ·
  refine dop rfl (Bmake (zc := [.int .i64 0, .int .i64 0, .int .i64 0]) hS hR rfl rfl Tryz.underlying181 info180 rfl (by rfl) (by rfl) (by decide) (by omega) (by show ((24 : Nat) : Int) * _ ≤ _; omega) (by omega) (by decide) ?_); clear hS hR hR0; intro aa ww bb26 hS hR
  refine dnext (hR.sub exQ) ?_; intro hR0
  refine dThree (i := 6) (j := 8) (m := 10) krQ ?_ ?_ ?_
  ·
   refine dop rfl (Bmake (zc := [.int .i64 0]) hS hR rfl rfl Tryz.underlying36 info3 rfl (by rfl) (by rfl) (by decide) (by omega) (by show ((8 : Nat) : Int) * _ ≤ _; omega) (by omega) (by decide) ?_); clear hS hR hR0; intro aa ww bb29 hS hR
   refine dnext (hR.sub exQ) ?_; intro hR0
   refine dTwo (i := 8) (j := 10) krQ ?_ ?_
   ·
    refine dop rfl (Bmake (zc := [.int .i64 0]) hS hR rfl rfl Tryz.underlying36 info3 rfl (by rfl) (by rfl) (by decide) (by omega) (by show ((8 : Nat) : Int) * _ ≤ _; omega) (by omega) (by decide) ?_); clear hS hR hR0; intro aa ww bb31 hS hR
    refine dnext (hR.sub exQ) ?_; intro hR0
    refine dOne (i := 10) krQ ?_
    refine dop rfl (Bmake (zc := [.int .i64 0]) hS hR rfl rfl Tryz.underlying36 info3 rfl (by rfl) (by rfl) (by decide) (by omega) (by show ((8 : Nat) : Int) * _ ≤ _; omega) (by omega) (by decide) ?_); clear hS hR hR0; intro aa ww bb33 hS hR
    refine dnext (hR.sub exQ) ?_; intro hR0
    revert aa
    refine eA 11 rfl krQ (fun _ _ _ h => h) hR0 rfl (fun _ hS => Yld.build hS rfl (bld183_0_1_2_3_4 _ _ _ _ _ _ _ _ _ _ _ _ _)) ?_
    intro aa hS
    refine dOne (i := 12) krQ ?_
    refine dop rfl (Bbox hS hR rfl (by rfl) (by decide) ?_); clear hS hR hR0; intro aa ww bb35 hS hR
    refine dnext (hR.sub exQ) ?_; intro hR0
    revert aa
    refine eA 13 rfl krQ (fun _ _ _ h => h) hR0 rfl (fun _ hS => Yld.assign hS rfl) ?_
    intro aa hS
    refine wpAnyH_done krQ ?_ _; clear hR0
    exact tail266 bb26 bb29 bb31 bb33 bb35 _ _ (hS.le (Le.cons rfl (Le.cons rfl (Le.cons rfl (Le.nil _))))) (hR.sub exQ)
   ·
    refine dop rfl (Bmake (zc := [.int .i64 0]) hS hR rfl rfl Tryz.underlying36 info3 rfl (by rfl) (by rfl) (by decide) (by omega) (by show ((8 : Nat) : Int) * _ ≤ _; omega) (by omega) (by decide) ?_); clear hS hR hR0; intro aa ww bb33 hS hR
    refine dnext (hR.sub exQ) ?_; intro hR0
    refine dOne (i := 8) krQ ?_
    refine dop rfl (Bmake (zc := [.int .i64 0]) hS hR rfl rfl Tryz.underlying36 info3 rfl (by rfl) (by rfl) (by decide) (by omega) (by show ((8 : Nat) : Int) * _ ≤ _; omega) (by omega) (by decide) ?_); clear hS hR hR0; intro aa ww bb31 hS hR
    refine dnext (hR.sub exQ) ?_; intro hR0
    revert aa
    refine eA 11 rfl krQ (fun _ _ _ h => h) hR0 rfl (fun _ hS => Yld.build hS rfl (bld183_0_1_2_3_4 _ _ _ _ _ _ _ _ _ _ _ _ _)) ?_
    intro aa hS
    refine dOne (i := 12) krQ ?_
    refine dop rfl (Bbox hS hR rfl (by rfl) (by decide) ?_); clear hS hR hR0; intro aa ww bb35 hS hR
    refine dnext (hR.sub exQ) ?_; intro hR0
    revert aa
    refine eA 13 rfl krQ (fun _ _ _ h => h) hR0 rfl (fun _ hS => Yld.assign hS rfl) ?_
    intro aa hS
    refine wpAnyH_done krQ ?_ _; clear hR0
    exact tail266 bb26 bb29 bb31 bb33 bb35 _ _ (hS.le (Le.cons rfl (Le.cons rfl (Le.cons rfl (Le.nil _))))) (hR.sub exQ)
  ·
   refine dop rfl (Bmake (zc := [.int .i64 0]) hS hR rfl rfl Tryz.underlying36 info3 rfl (by rfl) (by rfl) (by decide) (by omega) (by show ((8 : Nat) : Int) * _ ≤ _; omega) (by omega) (by decide) ?_); clear hS hR hR0; intro aa ww bb31 hS hR
   refine dnext (hR.sub exQ) ?_; intro hR0
   refine dTwo (i := 6) (j := 10) krQ ?_ ?_
   ·
    refine dop rfl (Bmake (zc := [.int .i64 0]) hS hR rfl rfl Tryz.underlying36 info3 rfl (by rfl) (by rfl) (by decide) (by omega) (by show ((8 : Nat) : Int) * _ ≤ _; omega) (by omega) (by decide) ?_); clear hS hR hR0; intro aa ww bb29 hS hR
    refine dnext (hR.sub exQ) ?_; intro hR0
    refine dOne (i := 10) krQ ?_
    refine dop rfl (Bmake (zc := [.int .i64 0]) hS hR rfl rfl Tryz.underlying36 info3 rfl (by rfl) (by rfl) (by decide) (by omega) (by show ((8 : Nat) : Int) * _ ≤ _; omega) (by omega) (by decide) ?_); clear hS hR hR0; intro aa ww bb33 hS hR
    refine dnext (hR.sub exQ) ?_; intro hR0
    revert aa
    refine eA 11 rfl krQ (fun _ _ _ h => h) hR0 rfl (fun _ hS => Yld.build hS rfl (bld183_0_1_2_3_4 _ _ _ _ _ _ _ _ _ _ _ _ _)) ?_
    intro aa hS
    refine dOne (i := 12) krQ ?_
    refine dop rfl (Bbox hS hR rfl (by rfl) (by decide) ?_); clear hS hR hR0; intro aa ww bb35 hS hR
    refine dnext (hR.sub exQ) ?_; intro hR0
    revert aa
    refine eA 13 rfl krQ (fun _ _ _ h => h) hR0 rfl (fun _ hS => Yld.assign hS rfl) ?_
    intro aa hS
    refine wpAnyH_done krQ ?_ _; clear hR0
    exact tail266 bb26 bb29 bb31 bb33 bb35 _ _ (hS.le (Le.cons rfl (Le.cons rfl (Le.cons rfl (Le.nil _))))) (hR.sub exQ)
   ·
    refine dop rfl (Bmake (zc := [.int .i64 0]) hS hR rfl rfl Tryz.underlying36 info3 rfl (by rfl) (by rfl) (by decide) (by omega) (by show ((8 : Nat) : Int) * _ ≤ _; omega) (by omega) (by decide) ?_); clear hS hR hR0; intro aa ww bb33 hS hR
    refine dnext (hR.sub exQ) ?_; intro hR0
    refine dOne (i := 6) krQ ?_
    refine dop rfl (Bmake (zc := [.int .i64 0]) hS hR rfl rfl Tryz.underlying36 info3 rfl (by rfl) (by rfl) (by decide) (by omega) (by show ((8 : Nat) : Int) * _ ≤ _; omega) (by omega) (by decide) ?_); clear hS hR hR0; intro aa ww bb29 hS hR
    refine dnext (hR.sub exQ) ?_; intro hR0
    revert aa
    refine eA 11 rfl krQ (fun _ _ _ h => h) hR0 rfl (fun _ hS => Yld.build hS rfl (bld183_0_1_2_3_4 _ _ _ _ _ _ _ _ _ _ _ _ _)) ?_
    intro aa hS
    refine dOne (i := 12) krQ ?_
    refine dop rfl (Bbox hS hR rfl (by rfl) (by decide) ?_); clear hS hR hR0; intro aa ww bb35 hS hR
    refine dnext (hR.sub exQ) ?_; intro hR0
    revert aa
    refine eA 13 rfl krQ (fun _ _ _ h => h) hR0 rfl (fun _ hS => Yld.assign hS rfl) ?_
    intro aa hS
    refine wpAnyH_done krQ ?_ _; clear hR0
    exact tail266 bb26 bb29 bb31 bb33 bb35 _ _ (hS.le (Le.cons rfl (Le.cons rfl (Le.cons rfl (Le.nil _))))) (hR.sub exQ)
  ·
   refine dop rfl (Bmake (zc := [.int .i64 0]) hS hR rfl rfl Tryz.underlying36 info3 rfl (by rfl) (by rfl) (by decide) (by omega) (by show ((8 : Nat) : Int) * _ ≤ _; omega) (by omega) (by decide) ?_); clear hS hR hR0; intro aa ww bb33 hS hR
   refine dnext (hR.sub exQ) ?_; intro hR0
   refine dTwo (i := 6) (j := 8) krQ ?_ ?_
   ·
    refine dop rfl (Bmake (zc := [.int .i64 0]) hS hR rfl rfl Tryz.underlying36 info3 rfl (by rfl) (by rfl) (by decide) (by omega) (by show ((8 : Nat) : Int) * _ ≤ _; omega) (by omega) (by decide) ?_); clear hS hR hR0; intro aa ww bb29 hS hR
    refine dnext (hR.sub exQ) ?_; intro hR0
    refine dOne (i := 8) krQ ?_
    refine dop rfl (Bmake (zc := [.int .i64 0]) hS hR rfl rfl Tryz.underlying36 info3 rfl (by rfl) (by rfl) (by decide) (by omega) (by show ((8 : Nat) : Int) * _ ≤ _; omega) (by omega) (by decide) ?_); clear hS hR hR0; intro aa ww bb31 hS hR
    refine dnext (hR.sub exQ) ?_; intro hR0
    revert aa
    refine eA 11 rfl krQ (fun _ _ _ h => h) hR0 rfl (fun _ hS => Yld.build hS rfl (bld183_0_1_2_3_4 _ _ _ _ _ _ _ _ _ _ _ _ _)) ?_
    intro aa hS
    refine dOne (i := 12) krQ ?_
    refine dop rfl (Bbox hS hR rfl (by rfl) (by decide) ?_); clear hS hR hR0; intro aa ww bb35 hS hR
    refine dnext (hR.sub exQ) ?_; intro hR0
    revert aa
    refine eA 13 rfl krQ (fun _ _ _ h => h) hR0 rfl (fun _ hS => Yld.assign hS rfl) ?_
    intro aa hS
    refine wpAnyH_done krQ ?_ _; clear hR0
    exact tail266 bb26 bb29 bb31 bb33 bb35 _ _ (hS.le (Le.cons rfl (Le.cons rfl (Le.cons rfl (Le.nil _))))) (hR.sub exQ)
   ·
    refine dop rfl (Bmake (zc := [.int .i64 0]) hS hR rfl rfl Tryz.underlying36 info3 rfl (by rfl) (by rfl) (by decide) (by omega) (by show ((8 : Nat) : Int) * _ ≤ _; omega) (by omega) (by decide) ?_); clear hS hR hR0; intro aa ww bb31 hS hR
    refine dnext (hR.sub exQ) ?_; intro hR0
    refine dOne (i := 6) krQ ?_
    refine dop rfl (Bmake (zc := [.int .i64 0]) hS hR rfl rfl Tryz.underlying36 info3 rfl (by rfl) (by rfl) (by decide) (by omega) (by show ((8 : Nat) : Int) * _ ≤ _; omega) (by omega) (by decide) ?_); clear hS hR hR0; intro aa ww bb29 hS hR
    refine dnext (hR.sub exQ) ?_; intro hR0
    revert aa
    refine eA 11 rfl krQ (fun _ _ _ h => h) hR0 rfl (fun _ hS => Yld.build hS rfl (bld183_0_1_2_3_4 _ _ _ _ _ _ _ _ _ _ _ _ _)) ?_
    intro aa hS
    refine dOne (i := 12) krQ ?_
    refine dop rfl (Bbox hS hR rfl (by rfl) (by decide) ?_); clear hS hR hR0; intro aa ww bb35 hS hR
    refine dnext (hR.sub exQ) ?_; intro hR0
    revert aa
    refine eA 13 rfl krQ (fun _ _ _ h => h) hR0 rfl (fun _ hS => Yld.assign hS rfl) ?_
    intro aa hS
    refine wpAnyH_done krQ ?_ _; clear hR0
    exact tail266 bb26 bb29 bb31 bb33 bb35 _ _ (hS.le (Le.cons rfl (Le.cons rfl (Le.cons rfl (Le.nil _))))) (hR.sub exQ)
 ·
  refine dop rfl (Bmake (zc := [.int .i64 0]) hS hR rfl rfl Tryz.underlying36 info3 rfl (by rfl) (by rfl) (by decide) (by omega) (by show ((8 : Nat) : Int) * _ ≤ _; omega) (by omega) (by decide) ?_); clear hS hR hR0; intro aa ww bb29 hS hR
  refine dnext (hR.sub exQ) ?_; intro hR0
  refine dThree (i := 3) (j := 8) (m := 10) krQ ?_ ?_ ?_
  ·
   refine dop rfl (Bmake (zc := [.int .i64 0, .int .i64 0, .int .i64 0]) hS hR rfl rfl Tryz.underlying181 info180 rfl (by rfl) (by rfl) (by decide) (by omega) (by show ((24 : Nat) : Int) * _ ≤ _; omega) (by omega) (by decide) ?_); clear hS hR hR0; intro aa ww bb26 hS hR
   refine dnext (hR.sub exQ) ?_; intro hR0
   refine dTwo (i := 8) (j := 10) krQ ?_ ?_
   ·
    refine dop rfl (Bmake (zc := [.int .i64 0]) hS hR rfl rfl Tryz.underlying36 info3 rfl (by rfl) (by rfl) (by decide) (by omega) (by show ((8 : Nat) : Int) * _ ≤ _; omega) (by omega) (by decide) ?_); clear hS hR hR0; intro aa ww bb31 hS hR
    refine dnext (hR.sub exQ) ?_; intro hR0
    refine dOne (i := 10) krQ ?_
    refine dop rfl (Bmake (zc := [.int .i64 0]) hS hR rfl rfl Tryz.underlying36 info3 rfl (by rfl) (by rfl) (by decide) (by omega) (by show ((8 : Nat) : Int) * _ ≤ _; omega) (by omega) (by decide) ?_); clear hS hR hR0; intro aa ww bb33 hS hR
    refine dnext (hR.sub exQ) ?_; intro hR0
    revert aa
    refine eA 11 rfl krQ (fun _ _ _ h => h) hR0 rfl (fun _ hS => Yld.build hS rfl (bld183_0_1_2_3_4 _ _ _ _ _ _ _ _ _ _ _ _ _)) ?_
    intro aa hS
    refine dOne (i := 12) krQ ?_
    refine dop rfl (Bbox hS hR rfl (by rfl) (by decide) ?_); clear hS hR hR0; intro aa ww bb35 hS hR
    refine dnext (hR.sub exQ) ?_; intro hR0
    revert aa
    refine eA 13 rfl krQ (fun _ _ _ h => h) hR0 rfl (fun _ hS => Yld.assign hS rfl) ?_
    intro aa hS
    refine wpAnyH_done krQ ?_ _; clear hR0
    exact tail266 bb26 bb29 bb31 bb33 bb35 _ _ (hS.le (Le.cons rfl (Le.cons rfl (Le.cons rfl (Le.nil _))))) (hR.sub exQ)
   ·
    refine dop rfl (Bmake (zc := [.int .i64 0]) hS hR rfl rfl Tryz.underlying36 info3 rfl (by rfl) (by rfl) (by decide) (by omega) (by show ((8 : Nat) : Int) * _ ≤ _; omega) (by omega) (by decide) ?_); clear hS hR hR0; intro aa ww bb33 hS hR
    refine dnext (hR.sub exQ) ?_; intro hR0
    refine dOne (i := 8) krQ ?_
    refine dop rfl (Bmake (zc := [.int .i64 0]) hS hR rfl rfl Tryz.underlying36 info3 rfl (by rfl) (by rfl) (by decide) (by omega) (by show ((8 : Nat) : Int) * _ ≤ _; omega) (by omega) (by decide) ?_); clear hS hR hR0; intro aa ww bb31 hS hR
    refine dnext (hR.sub exQ) ?_; intro hR0
    revert aa
    refine eA 11 rfl krQ (fun _ _ _ h => h) hR0 rfl (fun _ hS => Yld.build hS rfl (bld183_0_1_2_3_4 _ _ _ _ _ _ _ _ _ _ _ _ _)) ?_
    intro aa hS
    refine dOne (i := 12) krQ ?_
    refine dop rfl (Bbox hS hR rfl (by rfl) (by decide) ?_); clear hS hR hR0; intro aa ww bb35 hS hR
    refine dnext (hR.sub exQ) ?_; intro hR0
    revert aa
    refine eA 13 rfl krQ (fun _ _ _ h => h) hR0 rfl (fun _ hS => Yld.assign hS rfl) ?_
    intro aa hS
    refine wpAnyH_done krQ ?_ _; clear hR0
    exact tail266 bb26 bb29 bb31 bb33 bb35 _ _ (hS.le (Le.cons rfl (Le.cons rfl (Le.cons rfl (Le.nil _))))) (hR.sub exQ)
  ·
   refine dop rfl (Bmake (zc := [.int .i64 0]) hS hR rfl rfl Tryz.underlying36 info3 rfl (by rfl) (by rfl) (by decide) (by omega) (by show ((8 : Nat) : Int) * _ ≤ _; omega) (by omega) (by decide) ?_); clear hS hR hR0; intro aa ww bb31 hS hR
   refine dnext (hR.sub exQ) ?_; intro hR0
   refine dTwo (i := 3) (j := 10) krQ ?_ ?_
   ·
    refine dop rfl (Bmake (zc := [.int .i64 0, .int .i64 0, .int .i64 0]) hS hR rfl rfl Tryz.underlying181 info180 rfl (by rfl) (by rfl) (by decide) (by omega) (by show ((24 : Nat) : Int) * _ ≤ _; omega) (by omega) (by decide) ?_); clear hS hR hR0; intro aa ww bb26 hS hR
    refine dnext (hR.sub exQ) ?_; intro hR0
    refine dOne (i := 10) krQ ?_
    refine dop rfl (Bmake (zc := [.int .i64 0]) hS hR rfl rfl Tryz.underlying36 info3 rfl (by rfl) (by rfl) (by decide) (by omega) (by show ((8 : Nat) : Int) * _ ≤ _; omega) (by omega) (by decide) ?_); clear hS hR hR0; intro aa ww bb33 hS hR
    refine dnext (hR.sub exQ) ?_; intro hR0
    revert aa
    refine eA 11 rfl krQ (fun _ _ _ h => h) hR0 rfl (fun _ hS => Yld.build hS rfl (bld183_0_1_2_3_4 _ _ _ _ _ _ _ _ _ _ _ _ _)) ?_
    intro aa hS
    refine dOne (i := 12) krQ ?_
    refine dop rfl (Bbox hS hR rfl (by rfl) (by decide) ?_); clear hS hR hR0; intro aa ww bb35 hS hR
    refine dnext (hR.sub exQ) ?_; intro hR0
    revert aa
    refine eA 13 rfl krQ (fun _ _ _ h => h) hR0 rfl (fun _ hS => Yld.assign hS rfl) ?_
    intro aa hS
    refine wpAnyH_done krQ ?_ _; clear hR0
    exact tail266 bb26 bb29 bb31 bb33 bb35 _ _ (hS.le (Le.cons rfl (Le.cons rfl (Le.cons rfl (Le.nil _))))) (hR.sub exQ)
   ·
    refine dop rfl (Bmake (zc := [.int .i64 0]) hS hR rfl rfl Tryz.underlying36 info3 rfl (by rfl) (by rfl) (by decide) (by omega) (by show ((8 : Nat) : Int) * _ ≤ _; omega) (by omega) (by decide) ?_); clear hS hR hR0; intro aa ww bb33 hS hR
    refine dnext (hR.sub exQ) ?_; intro hR0
    refine dOne (i := 3) krQ ?_
    refine dop rfl (Bmake (zc := [.int .i64 0, .int .i64 0, .int .i64 0]) hS hR rfl rfl Tryz.underlying181 info180 rfl (by rfl) (by rfl) (by decide) (by omega) (by show ((24 : Nat) : Int) * _ ≤ _; omega) (by omega) (by decide) ?_); clear hS hR hR0; intro aa ww bb26 hS hR
    refine dnext (hR.sub exQ) ?_; intro hR0
    revert aa
    refine eA 11 rfl krQ (fun _ _ _ h => h) hR0 rfl (fun _ hS => Yld.build hS rfl (bld183_0_1_2_3_4 _ _ _ _ _ _ _ _ _ _ _ _ _)) ?_
    intro aa hS
    refine dOne (i := 12) krQ ?_
    refine dop rfl (Bbox hS hR rfl (by rfl) (by decide) ?_); clear hS hR hR0; intro aa ww bb35 hS hR
    refine dnext (hR.sub exQ) ?_; intro hR0
    revert aa
    refine eA 13 rfl krQ (fun _ _ _ h => h) hR0 rfl (fun _ hS => Yld.assign hS rfl) ?_
    intro aa hS
    refine wpAnyH_done krQ ?_ _; clear hR0
    exact tail266 bb26 bb29 bb31 bb33 bb35 _ _ (hS.le (Le.cons rfl (Le.cons rfl (Le.cons rfl (Le.nil _))))) (hR.sub exQ)
  ·
   refine dop rfl (Bmake (zc := [.int .i64 0]) hS hR rfl rfl Tryz.underlying36 info3 rfl (by rfl) (by rfl) (by decide) (by omega) (by show ((8 : Nat) : Int) * _ ≤ _; omega) (by omega) (by decide) ?_); clear hS hR hR0; intro aa ww bb33 hS hR
   refine dnext (hR.sub exQ) ?_; intro hR0
   refine dTwo (i := 3) (j := 8) krQ ?_ ?_
   ·
    refine dop rfl (Bmake (zc := [.int .i64 0, .int .i64 0, .int .i64 0]) hS hR rfl rfl Tryz.underlying181 info180 rfl (by rfl) (by rfl) (by decide) (by omega) (by show ((24 : Nat) : Int) * _ ≤ _; omega) (by omega) (by decide) ?_); clear hS hR hR0; intro aa ww bb26 hS hR
    refine dnext (hR.sub exQ) ?_; intro hR0
    refine dOne (i := 8) krQ ?_
    refine dop rfl (Bmake (zc := [.int .i64 0]) hS hR rfl rfl Tryz.underlying36 info3 rfl (by rfl) (by rfl) (by decide) (by omega) (by show ((8 : Nat) : Int) * _ ≤ _; omega) (by omega) (by decide) ?_); clear hS hR hR0; intro aa ww bb31 hS hR
    refine dnext (hR.sub exQ) ?_; intro hR0
    revert aa
    refine eA 11 rfl krQ (fun _ _ _ h => h) hR0 rfl (fun _ hS => Yld.build hS rfl (bld183_0_1_2_3_4 _ _ _ _ _ _ _ _ _ _ _ _ _)) ?_
    intro aa hS
    refine dOne (i := 12) krQ ?_
    refine dop rfl (Bbox hS hR rfl (by rfl) (by decide) ?_); clear hS hR hR0; intro aa ww bb35 hS hR
    refine dnext (hR.sub exQ) ?_; intro hR0
    revert aa
    refine eA 13 rfl krQ (fun _ _ _ h => h) hR0 rfl (fun _ hS => Yld.assign hS rfl) ?_
    intro aa hS
    refine wpAnyH_done krQ ?_ _; clear hR0
    exact tail266 bb26 bb29 bb31 bb33 bb35 _ _ (hS.le (Le.cons rfl (Le.cons rfl (Le.cons rfl (Le.nil _))))) (hR.sub exQ)
   ·
    refine dop rfl (Bmake (zc := [.int .i64 0]) hS hR rfl rfl Tryz.underlying36 info3 rfl (by rfl) (by rfl) (by decide) (by omega) (by show ((8 : Nat) : Int) * _ ≤ _; omega) (by omega) (by decide) ?_); clear hS hR hR0; intro aa ww bb31 hS hR
    refine dnext (hR.sub exQ) ?_; intro hR0
    refine dOne (i := 3) krQ ?_
    refine dop rfl (Bmake (zc := [.int .i64 0, .int .i64 0, .int .i64 0]) hS hR rfl rfl Tryz.underlying181 info180 rfl (by rfl) (by rfl) (by decide) (by omega) (by show ((24 : Nat) : Int) * _ ≤ _; omega) (by omega) (by decide) ?_); clear hS hR hR0; intro aa ww bb26 hS hR
    refine dnext (hR.sub exQ) ?_; intro hR0
    revert aa
    refine eA 11 rfl krQ (fun _ _ _ h => h) hR0 rfl (fun _ hS => Yld.build hS rfl (bld183_0_1_2_3_4 _ _ _ _ _ _ _ _ _ _ _ _ _)) ?_
    intro aa hS
    refine dOne (i := 12) krQ ?_
    refine dop rfl (Bbox hS hR rfl (by rfl) (by decide) ?_); clear hS hR hR0; intro aa ww bb35 hS hR
    refine dnext (hR.sub exQ) ?_; intro hR0
    revert aa
    refine eA 13 rfl krQ (fun _ _ _ h => h) hR0 rfl (fun _ hS => Yld.assign hS rfl) ?_
    intro aa hS
    refine wpAnyH_done krQ ?_ _; clear hR0
    exact tail266 bb26 bb29 bb31 bb33 bb35 _ _ (hS.le (Le.cons rfl (Le.cons rfl (Le.cons rfl (Le.nil _))))) (hR.sub exQ)
 ·
  refine dop rfl (Bmake (zc := [.int .i64 0]) hS hR rfl rfl Tryz.underlying36 info3 rfl (by rfl) (by rfl) (by decide) (by omega) (by show ((8 : Nat) : Int) * _ ≤ _; omega) (by omega) (by decide) ?_); clear hS hR hR0; intro aa ww bb31 hS hR
  refine dnext (hR.sub exQ) ?_; intro hR0
  refine dThree (i := 3) (j := 6) (m := 10) krQ ?_ ?_ ?_
  ·
   refine dop rfl (Bmake (zc := [.int .i64 0, .int .i64 0, .int .i64 0]) hS hR rfl rfl Tryz.underlying181 info180 rfl (by rfl) (by rfl) (by decide) (by omega) (by show ((24 : Nat) : Int) * _ ≤ _; omega) (by omega) (by decide) ?_); clear hS hR hR0; intro aa ww bb26 hS hR
   refine dnext (hR.sub exQ) ?_; intro hR0
   refine dTwo (i := 6) (j := 10) krQ ?_ ?_
   ·
    refine dop rfl (Bmake (zc := [.int .i64 0]) hS hR rfl rfl Tryz.underlying36 info3 rfl (by rfl) (by rfl) (by decide) (by omega) (by show ((8 : Nat) : Int) * _ ≤ _; omega) (by omega) (by decide) ?_); clear hS hR hR0; intro aa ww bb29 hS hR
    refine dnext (hR.sub exQ) ?_; intro hR0
    refine dOne (i := 10) krQ ?_
    refine dop rfl (Bmake (zc := [.int .i64 0]) hS hR rfl rfl Tryz.underlying36 info3 rfl (by rfl) (by rfl) (by decide) (by omega) (by show ((8 : Nat) : Int) * _ ≤ _; omega) (by omega) (by decide) ?_); clear hS hR hR0; intro aa ww bb33 hS hR
    refine dnext (hR.sub exQ) ?_; intro hR0
    revert aa
    refine eA 11 rfl krQ (fun _ _ _ h => h) hR0 rfl (fun _ hS => Yld.build hS rfl (bld183_0_1_2_3_4 _ _ _ _ _ _ _ _ _ _ _ _ _)) ?_
    intro aa hS
    refine dOne (i := 12) krQ ?_
    refine dop rfl (Bbox hS hR rfl (by rfl) (by decide) ?_); clear hS hR hR0; intro aa ww bb35 hS hR
    refine dnext (hR.sub exQ) ?_; intro hR0
    revert aa
    refine eA 13 rfl krQ (fun _ _ _ h => h) hR0 rfl (fun _ hS => Yld.assign hS rfl) ?_
    intro aa hS
    refine wpAnyH_done krQ ?_ _; clear hR0
    exact tail266 bb26 bb29 bb31 bb33 bb35 _ _ (hS.le (Le.cons rfl (Le.cons rfl (Le.cons rfl (Le.nil _))))) (hR.sub exQ)
   ·
    refine dop rfl (Bmake (zc := [.int .i64 0]) hS hR rfl rfl Tryz.underlying36 info3 rfl (by rfl) (by rfl) (by decide) (by omega) (by show ((8 : Nat) : Int) * _ ≤ _; omega) (by omega) (by decide) ?_); clear hS hR hR0; intro aa ww bb33 hS hR
    refine dnext (hR.sub exQ) ?_; intro hR0
    refine dOne (i := 6) krQ ?_
    refine dop rfl (Bmake (zc := [.int .i64 0]) hS hR rfl rfl Tryz.underlying36 info3 rfl (by rfl) (by rfl) (by decide) (by omega) (by show ((8 : Nat) : Int) * _ ≤ _; omega) (by omega) (by decide) ?_); clear hS hR hR0; intro aa ww bb29 hS hR
    refine dnext (hR.sub exQ) ?_; intro hR0
    revert aa
    refine eA 11 rfl krQ (fun _ _ _ h => h) hR0 rfl (fun _ hS => Yld.build hS rfl (bld183_0_1_2_3_4 _ _ _ _ _ _ _ _ _ _ _ _ _)) ?_
    intro aa hS
    refine dOne (i := 12) krQ ?_
    refine dop rfl (Bbox hS hR rfl (by rfl) (by decide) ?_); clear hS hR hR0; intro aa ww bb35 hS hR
    refine dnext (hR.sub exQ) ?_; intro hR0
    revert aa
    refine eA 13 rfl krQ (fun _ _ _ h => h) hR0 rfl (fun _ hS => Yld.assign hS rfl) ?_
    intro aa hS
    refine wpAnyH_done krQ ?_ _; clear hR0
    exact tail266 bb26 bb29 bb31 bb33 bb35 _ _ (hS.le (Le.cons rfl (Le.cons rfl (Le.cons rfl (Le.nil _))))) (hR.sub exQ)
  ·
   refine dop rfl (Bmake (zc := [.int .i64 0]) hS hR rfl rfl Tryz.underlying36 info3 rfl (by rfl) (by rfl) (by decide) (by omega) (by show ((8 : Nat) : Int) * _ ≤ _; omega) (by omega) (by decide) ?_); clear hS hR hR0; intro aa ww bb29 hS hR
   refine dnext (hR.sub exQ) ?_; intro hR0
   refine dTwo (i := 3) (j := 10) krQ ?_ ?_
   ·
    refine dop rfl (Bmake (zc := [.int .i64 0, .int .i64 0, .int .i64 0]) hS hR rfl rfl Tryz.underlying181 info180 rfl (by rfl) (by rfl) (by decide) (by omega) (by show ((24 : Nat) : Int) * _ ≤ _; omega) (by omega) (by decide) ?_); clear hS hR hR0; intro aa ww bb26 hS hR
    refine dnext (hR.sub exQ) ?_; intro hR0
    refine dOne (i := 10) krQ ?_
    refine dop rfl (Bmake (zc := [.int .i64 0]) hS hR rfl rfl Tryz.underlying36 info3 rfl (by rfl) (by rfl) (by decide) (by omega) (by show ((8 : Nat) : Int) * _ ≤ _; omega) (by omega) (by decide) ?_); clear hS hR hR0; intro aa ww bb33 hS hR
    refine dnext (hR.sub exQ) ?_; intro hR0
    revert aa
    refine eA 11 rfl krQ (fun _ _ _ h => h) hR0 rfl (fun _ hS => Yld.build hS rfl (bld183_0_1_2_3_4 _ _ _ _ _ _ _ _ _ _ _ _ _)) ?_
    intro aa hS
    refine dOne (i := 12) krQ ?_
    refine dop rfl (Bbox hS hR rfl (by rfl) (by decide) ?_); clear hS hR hR0; intro aa ww bb35 hS hR
    refine dnext (hR.sub exQ) ?_; intro hR0
    revert aa
    refine eA 13 rfl krQ (fun _ _ _ h => h) hR0 rfl (fun _ hS => Yld.assign hS rfl) ?_
    intro aa hS
    refine wpAnyH_done krQ ?_ _; clear hR0
    exact tail266 bb26 bb29 bb31 bb33 bb35 _ _ (hS.le (Le.cons rfl (Le.cons rfl (Le.cons rfl (Le.nil _))))) (hR.sub exQ)
   ·
    refine dop rfl (Bmake (zc := [.int .i64 0]) hS hR rfl rfl Tryz.underlying36 info3 rfl (by rfl) (by rfl) (by decide) (by omega) (by show ((8 : Nat) : Int) * _ ≤ _; omega) (by omega) (by decide) ?_); clear hS hR hR0; intro aa ww bb33 hS hR
    refine dnext (hR.sub exQ) ?_; intro hR0
    refine dOne (i := 3) krQ ?_
    refine dop rfl (Bmake (zc := [.int .i64 0, .int .i64 0, .int .i64 0]) hS hR rfl rfl Tryz.underlying181 info180 rfl (by rfl) (by rfl) (by decide) (by omega) (by show ((24 : Nat) : Int) * _ ≤ _; omega) (by omega) (by decide) ?_); clear hS hR hR0; intro aa ww bb26 hS hR
    refine dnext (hR.sub exQ) ?_; intro hR0
    revert aa
    refine eA 11 rfl krQ (fun _ _ _ h => h) hR0 rfl (fun _ hS => Yld.build hS rfl (bld183_0_1_2_3_4 _ _ _ _ _ _ _ _ _ _ _ _ _)) ?_
    intro aa hS
    refine dOne (i := 12) krQ ?_
    refine dop rfl (Bbox hS hR rfl (by rfl) (by decide) ?_); clear hS hR hR0; intro aa ww bb35 hS hR
    refine dnext (hR.sub exQ) ?_; intro hR0
    revert aa
    refine eA 13 rfl krQ (fun _ _ _ h => h) hR0 rfl (fun _ hS => Yld.assign hS rfl) ?_
    intro aa hS
    refine wpAnyH_done krQ ?_ _; clear hR0
    exact tail266 bb26 bb29 bb31 bb33 bb35 _ _ (hS.le (Le.cons rfl (Le.cons rfl (Le.cons rfl (Le.nil _))))) (hR.sub exQ)
  ·
   refine dop rfl (Bmake (zc := [.int .i64 0]) hS hR rfl rfl Tryz.underlying36 info3 rfl (by rfl) (by rfl) (by decide) (by omega) (by show ((8 : Nat) : Int) * _ ≤ _; omega) (by omega) (by decide) ?_); clear hS hR hR0; intro aa ww bb33 hS hR
   refine dnext (hR.sub exQ) ?_; intro hR0
   refine dTwo (i := 3) (j := 6) krQ ?_ ?_
   ·
    refine dop rfl (Bmake (zc := [.int .i64 0, .int .i64 0, .int .i64 0]) hS hR rfl rfl Tryz.underlying181 info180 rfl (by rfl) (by rfl) (by decide) (by omega) (by show ((24 : Nat) : Int) * _ ≤ _; omega) (by omega) (by decide) ?_); clear hS hR hR0; intro aa ww bb26 hS hR
    refine dnext (hR.sub exQ) ?_; intro hR0
    refine dOne (i := 6) krQ ?_
    refine dop rfl (Bmake (zc := [.int .i64 0]) hS hR rfl rfl Tryz.underlying36 info3 rfl (by rfl) (by rfl) (by decide) (by omega) (by show ((8 : Nat) : Int) * _ ≤ _; omega) (by omega) (by decide) ?_); clear hS hR hR0; intro aa ww bb29 hS hR
    refine dnext (hR.sub exQ) ?_; intro hR0
    revert aa
    refine eA 11 rfl krQ (fun _ _ _ h => h) hR0 rfl (fun _ hS => Yld.build hS rfl (bld183_0_1_2_3_4 _ _ _ _ _ _ _ _ _ _ _ _ _)) ?_
    intro aa hS
    refine dOne (i := 12) krQ ?_
    refine dop rfl (Bbox hS hR rfl (by rfl) (by decide) ?_); clear hS hR hR0; intro aa ww bb35 hS hR
    refine dnext (hR.sub exQ) ?_; intro hR0
    revert aa
    refine eA 13 rfl krQ (fun _ _ _ h => h) hR0 rfl (fun _ hS => Yld.assign hS rfl) ?_
    intro aa hS
    refine wpAnyH_done krQ ?_ _; clear hR0
    exact tail266 bb26 bb29 bb31 bb33 bb35 _ _ (hS.le (Le.cons rfl (Le.cons rfl (Le.cons rfl (Le.nil _))))) (hR.sub exQ)
   ·
    refine dop rfl (Bmake (zc := [.int .i64 0]) hS hR rfl rfl Tryz.underlying36 info3 rfl (by rfl) (by rfl) (by decide) (by omega) (by show ((8 : Nat) : Int) * _ ≤ _; omega) (by omega) (by decide) ?_); clear hS hR hR0; intro aa ww bb29 hS hR
    refine dnext (hR.sub exQ) ?_; intro hR0
    refine dOne (i := 3) krQ ?_
    refine dop rfl (Bmake (zc := [.int .i64 0, .int .i64 0, .int .i64 0]) hS hR rfl rfl Tryz.underlying181 info180 rfl (by rfl) (by rfl) (by decide) (by omega) (by show ((24 : Nat) : Int) * _ ≤ _; omega) (by omega) (by decide) ?_); clear hS hR hR0; intro aa ww bb26 hS hR
    refine dnext (hR.sub exQ) ?_; intro hR0
    revert aa
    refine eA 11 rfl krQ (fun _ _ _ h => h) hR0 rfl (fun _ hS => Yld.build hS rfl (bld183_0_1_2_3_4 _ _ _ _ _ _ _ _ _ _ _ _ _)) ?_
    intro aa hS
    refine dOne (i := 12) krQ ?_
    refine dop rfl (Bbox hS hR rfl (by rfl) (by decide) ?_); clear hS hR hR0; intro aa ww bb35 hS hR
    refine dnext (hR.sub exQ) ?_; intro hR0
    revert aa
    refine eA 13 rfl krQ (fun _ _ _ h => h) hR0 rfl (fun _ hS => Yld.assign hS rfl) ?_
    intro aa hS
    refine wpAnyH_done krQ ?_ _; clear hR0
    exact tail266 bb26 bb29 bb31 bb33 bb35 _ _ (hS.le (Le.cons rfl (Le.cons rfl (Le.cons rfl (Le.nil _))))) (hR.sub exQ)
 ·
  refine dop rfl (Bmake (zc := [.int .i64 0]) hS hR rfl rfl Tryz.underlying36 info3 rfl (by rfl) (by rfl) (by decide) (by omega) (by show ((8 : Nat) : Int) * _ ≤ _; omega) (by omega) (by decide) ?_); clear hS hR hR0; intro aa ww bb33 hS hR
  refine dnext (hR.sub exQ) ?_; intro hR0
  refine dThree (i := 3) (j := 6) (m := 8) krQ ?_ ?_ ?_
  ·
   refine dop rfl (Bmake (zc := [.int .i64 0, .int .i64 0, .int .i64 0]) hS hR rfl rfl Tryz.underlying181 info180 rfl (by rfl) (by rfl) (by decide) (by omega) (by show ((24 : Nat) : Int) * _ ≤ _; omega) (by omega) (by decide) ?_); clear hS hR hR0; intro aa ww bb26 hS hR
   refine dnext (hR.sub exQ) ?_; intro hR0
   refine dTwo (i := 6) (j := 8) krQ ?_ ?_
   ·
    refine dop rfl (Bmake (zc := [.int .i64 0]) hS hR rfl rfl Tryz.underlying36 info3 rfl (by rfl) (by rfl) (by decide) (by omega) (by show ((8 : Nat) : Int) * _ ≤ _; omega) (by omega) (by decide) ?_); clear hS hR hR0; intro aa ww bb29 hS hR
    refine dnext (hR.sub exQ) ?_; intro hR0
    refine dOne (i := 8) krQ ?_
    refine dop rfl (Bmake (zc := [.int .i64 0]) hS hR rfl rfl Tryz.underlying36 info3 rfl (by rfl) (by rfl) (by decide) (by omega) (by show ((8 : Nat) : Int) * _ ≤ _; omega) (by omega) (by decide) ?_); clear hS hR hR0; intro aa ww bb31 hS hR
    refine dnext (hR.sub exQ) ?_; intro hR0
    revert aa
    refine eA 11 rfl krQ (fun _ _ _ h => h) hR0 rfl (fun _ hS => Yld.build hS rfl (bld183_0_1_2_3_4 _ _ _ _ _ _ _ _ _ _ _ _ _)) ?_
    intro aa hS
    refine dOne (i := 12) krQ ?_
    refine dop rfl (Bbox hS hR rfl (by rfl) (by decide) ?_); clear hS hR hR0; intro aa ww bb35 hS hR
    refine dnext (hR.sub exQ) ?_; intro hR0
    revert aa
    refine eA 13 rfl krQ (fun _ _ _ h => h) hR0 rfl (fun _ hS => Yld.assign hS rfl) ?_
    intro aa hS
    refine wpAnyH_done krQ ?_ _; clear hR0
    exact tail266 bb26 bb29 bb31 bb33 bb35 _ _ (hS.le (Le.cons rfl (Le.cons rfl (Le.cons rfl (Le.nil _))))) (hR.sub exQ)
   ·
    refine dop rfl (Bmake (zc := [.int .i64 0]) hS hR rfl rfl Tryz.underlying36 info3 rfl (by rfl) (by rfl) (by decide) (by omega) (by show ((8 : Nat) : Int) * _ ≤ _; omega) (by omega) (by decide) ?_); clear hS hR hR0; intro aa ww bb31 hS hR
    refine dnext (hR.sub exQ) ?_; intro hR0
    refine dOne (i := 6) krQ ?_
    refine dop rfl (Bmake (zc := [.int .i64 0]) hS hR rfl rfl Tryz.underlying36 info3 rfl (by rfl) (by rfl) (by decide) (by omega) (by show ((8 : Nat) : Int) * _ ≤ _; omega) (by omega) (by decide) ?_); clear hS hR hR0; intro aa ww bb29 hS hR
    refine dnext (hR.sub exQ) ?_; intro hR0
    revert aa
    refine eA 11 rfl krQ (fun _ _ _ h => h) hR0 rfl (fun _ hS => Yld.build hS rfl (bld183_0_1_2_3_4 _ _ _ _ _ _ _ _ _ _ _ _ _)) ?_
    intro aa hS
    refine dOne (i := 12) krQ ?_
    refine dop rfl (Bbox hS hR rfl (by rfl) (by decide) ?_); clear hS hR hR0; intro aa ww bb35 hS hR
    refine dnext (hR.sub exQ) ?_; intro hR0
    revert aa
    refine eA 13 rfl krQ (fun _ _ _ h => h) hR0 rfl (fun _ hS => Yld.assign hS rfl) ?_
    intro aa hS
    refine wpAnyH_done krQ ?_ _; clear hR0
    exact tail266 bb26 bb29 bb31 bb33 bb35 _ _ (hS.le (Le.cons rfl (Le.cons rfl (Le.cons rfl (Le.nil _))))) (hR.sub exQ)
  ·
   refine dop rfl (Bmake (zc := [.int .i64 0]) hS hR rfl rfl Tryz.underlying36 info3 rfl (by rfl) (by rfl) (by decide) (by omega) (by show ((8 : Nat) : Int) * _ ≤ _; omega) (by omega) (by decide) ?_); clear hS hR hR0; intro aa ww bb29 hS hR
   refine dnext (hR.sub exQ) ?_; intro hR0
   refine dTwo (i := 3) (j := 8) krQ ?_ ?_
   ·
    refine dop rfl (Bmake (zc := [.int .i64 0, .int .i64 0, .int .i64 0]) hS hR rfl rfl Tryz.underlying181 info180 rfl (by rfl) (by rfl) (by decide) (by omega) (by show ((24 : Nat) : Int) * _ ≤ _; omega) (by omega) (by decide) ?_); clear hS hR hR0; intro aa ww bb26 hS hR
    refine dnext (hR.sub exQ) ?_; intro hR0
    refine dOne (i := 8) krQ ?_
    refine dop rfl (Bmake (zc := [.int .i64 0]) hS hR rfl rfl Tryz.underlying36 info3 rfl (by rfl) (by rfl) (by decide) (by omega) (by show ((8 : Nat) : Int) * _ ≤ _; omega) (by omega) (by decide) ?_); clear hS hR hR0; intro aa ww bb31 hS hR
    refine dnext (hR.sub exQ) ?_; intro hR0
    revert aa
    refine eA 11 rfl krQ (fun _ _ _ h => h) hR0 rfl (fun _ hS => Yld.build hS rfl (bld183_0_1_2_3_4 _ _ _ _ _ _ _ _ _ _ _ _ _)) ?_
    intro aa hS
    refine dOne (i := 12) krQ ?_
    refine dop rfl (Bbox hS hR rfl (by rfl) (by decide) ?_); clear hS hR hR0; intro aa ww bb35 hS hR
    refine dnext (hR.sub exQ) ?_; intro hR0
    revert aa
    refine eA 13 rfl krQ (fun _ _ _ h => h) hR0 rfl (fun _ hS => Yld.assign hS rfl) ?_
    intro aa hS
    refine wpAnyH_done krQ ?_ _; clear hR0
    exact tail266 bb26 bb29 bb31 bb33 bb35 _ _ (hS.le (Le.cons rfl (Le.cons rfl (Le.cons rfl (Le.nil _))))) (hR.sub exQ)
   ·
    refine dop rfl (Bmake (zc := [.int .i64 0]) hS hR rfl rfl Tryz.underlying36 info3 rfl (by rfl) (by rfl) (by decide) (by omega) (by show ((8 : Nat) : Int) * _ ≤ _; omega) (by omega) (by decide) ?_); clear hS hR hR0; intro aa ww bb31 hS hR
    refine dnext (hR.sub exQ) ?_; intro hR0
    refine dOne (i := 3) krQ ?_
    refine dop rfl (Bmake (zc := [.int .i64 0, .int .i64 0, .int .i64 0]) hS hR rfl rfl Tryz.underlying181 info180 rfl (by rfl) (by rfl) (by decide) (by omega) (by show ((24 : Nat) : Int) * _ ≤ _; omega) (by omega) (by decide) ?_); clear hS hR hR0; intro aa ww bb26 hS hR
    refine dnext (hR.sub exQ) ?_; intro hR0
    revert aa
    refine eA 11 rfl krQ (fun _ _ _ h => h) hR0 rfl (fun _ hS => Yld.build hS rfl (bld183_0_1_2_3_4 _ _ _ _ _ _ _ _ _ _ _ _ _)) ?_
    intro aa hS
    refine dOne (i := 12) krQ ?_
    refine dop rfl (Bbox hS hR rfl (by rfl) (by decide) ?_); clear hS hR hR0; intro aa ww bb35 hS hR
    refine dnext (hR.sub exQ) ?_; intro hR0
    revert aa
    refine eA 13 rfl krQ (fun _ _ _ h => h) hR0 rfl (fun _ hS => Yld.assign hS rfl) ?_
    intro aa hS
    refine wpAnyH_done krQ ?_ _; clear hR0
    exact tail266 bb26 bb29 bb31 bb33 bb35 _ _ (hS.le (Le.cons rfl (Le.cons rfl (Le.cons rfl (Le.nil _))))) (hR.sub exQ)
  ·
   refine dop rfl (Bmake (zc := [.int .i64 0]) hS hR rfl rfl Tryz.underlying36 info3 rfl (by rfl) (by rfl) (by decide) (by omega) (by show ((8 : Nat) : Int) * _ ≤ _; omega) (by omega) (by decide) ?_); clear hS hR hR0; intro aa ww bb31 hS hR
   refine dnext (hR.sub exQ) ?_; intro hR0
   refine dTwo (i := 3) (j := 6) krQ ?_ ?_
   ·
    refine dop rfl (Bmake (zc := [.int .i64 0, .int .i64 0, .int .i64 0]) hS hR rfl rfl Tryz.underlying181 info180 rfl (by rfl) (by rfl) (by decide) (by omega) (by show ((24 : Nat) : Int) * _ ≤ _; omega) (by omega) (by decide) ?_); clear hS hR hR0; intro aa ww bb26 hS hR
    refine dnext (hR.sub exQ) ?_; intro hR0
    refine dOne (i := 6) krQ ?_
    refine dop rfl (Bmake (zc := [.int .i64 0]) hS hR rfl rfl Tryz.underlying36 info3 rfl (by rfl) (by rfl) (by decide) (by omega) (by show ((8 : Nat) : Int) * _ ≤ _; omega) (by omega) (by decide) ?_); clear hS hR hR0; intro aa ww bb29 hS hR
    refine dnext (hR.sub exQ) ?_; intro hR0
    revert aa
    refine eA 11 rfl krQ (fun _ _ _ h => h) hR0 rfl (fun _ hS => Yld.build hS rfl (bld183_0_1_2_3_4 _ _ _ _ _ _ _ _ _ _ _ _ _)) ?_
    intro aa hS
    refine dOne (i := 12) krQ ?_
    refine dop rfl (Bbox hS hR rfl (by rfl) (by decide) ?_); clear hS hR hR0; intro aa ww bb35 hS hR
    refine dnext (hR.sub exQ) ?_; intro hR0
    revert aa
    refine eA 13 rfl krQ (fun _ _ _ h => h) hR0 rfl (fun _ hS => Yld.assign hS rfl) ?_
    intro aa hS
    refine wpAnyH_done krQ ?_ _; clear hR0
    exact tail266 bb26 bb29 bb31 bb33 bb35 _ _ (hS.le (Le.cons rfl (Le.cons rfl (Le.cons rfl (Le.nil _))))) (hR.sub exQ)
   ·
    refine dop rfl (Bmake (zc := [.int .i64 0]) hS hR rfl rfl Tryz.underlying36 info3 rfl (by rfl) (by rfl) (by decide) (by omega) (by show ((8 : Nat) : Int) * _ ≤ _; omega) (by omega) (by decide) ?_); clear hS hR hR0; intro aa ww bb29 hS hR
    refine dnext (hR.sub exQ) ?_; intro hR0
    refine dOne (i := 3) krQ ?_
    refine dop rfl (Bmake (zc := [.int .i64 0, .int .i64 0, .int .i64 0]) hS hR rfl rfl Tryz.underlying181 info180 rfl (by rfl) (by rfl) (by decide) (by omega) (by show ((24 : Nat) : Int) * _ ≤ _; omega) (by omega) (by decide) ?_); clear hS hR hR0; intro aa ww bb26 hS hR
    refine dnext (hR.sub exQ) ?_; intro hR0
    revert aa
    refine eA 11 rfl krQ (fun _ _ _ h => h) hR0 rfl (fun _ hS => Yld.build hS rfl (bld183_0_1_2_3_4 _ _ _ _ _ _ _ _ _ _ _ _ _)) ?_
    intro aa hS
    refine dOne (i := 12) krQ ?_
    refine dop rfl (Bbox hS hR rfl (by rfl) (by decide) ?_); clear hS hR hR0; intro aa ww bb35 hS hR
    refine dnext (hR.sub exQ) ?_; intro hR0
    revert aa
    refine eA 13 rfl krQ (fun _ _ _ h => h) hR0 rfl (fun _ hS => Yld.assign hS rfl) ?_
    intro aa hS
    refine wpAnyH_done krQ ?_ _; clear hR0
    exact tail266 bb26 bb29 bb31 bb33 bb35 _ _ (hS.le (Le.cons rfl (Le.cons rfl (Le.cons rfl (Le.nil _))))) (hR.sub exQ)
end Go.Proofs.YtkhdejjompbklaaGreat.Sx
