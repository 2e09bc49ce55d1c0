/-
 
-/
import Derived.Test.YtkhdejjompbklaaXLwB
import Derived.Test.YtkhdejjompbklaaXPzc
namespace Go.Proofs.Ytkhdejjompbklaa.Sx
open Go
set_option maxRecDepth 20000
set_option linter.unusedVariables false
set_option linter.unusedSimpArgs false
set_option maxHeartbeats 4000000 in
theorem AdmitFair_ok {W : World} {q : Option Addr} {n c : Nat} {n0 n1 n2 n3 n4 : Int} {xs : List (List Int)} (A1 : ArgS W [.u8, .u32, .i64] q n c xs) {l : List HP} {w : World} (h0 : 0 ≤ n0 ∧ n0 ≤ 255) (h1 : 0 ≤ n1 ∧ n1 ≤ 255) (h2 : 0 ≤ n2 ∧ n2 ≤ 255) (h3 : 0 ≤ n3 ∧ n3 ≤ 255) (h4 : 0 ≤ n4 ∧ n4 ≤ 255) (hR : Sep (old W :: l) w) : CallR Try.prog 4 [.agg [.int .u8 n0, .int .u8 n1, .int .u8 n2, .int .u8 n3, .int .u8 n4].toArray, .slice q n c] w (fun v w' => v = .bool true ∧ Sep (old W :: l) w') := by
 refine enter Try.func4 rfl Try.ntmps4 (Nat.le_of_ble_eq_true rfl) ?_; intro aa hS
 have hcap := A1.cap
 obtain ⟨S, hSe, hS1, hS2⟩ : ∃ y : Nat, 1 + n0 % 20 = (y : Int) ∧ 1 ≤ y ∧ y ≤ 20 := ⟨(1 + n0 % 20).toNat, by omega, by omega, by omega⟩
 obtain ⟨lim, hle, hl1, hl2⟩ : ∃ y : Nat, 1 + n1 % 8 = (y : Int) ∧ 1 ≤ y ∧ y ≤ 8 := ⟨(1 + n1 % 8).toNat, by omega, by omega, by omega⟩
 obtain ⟨t, ht⟩ : ∃ y, 1 + n2 % 3 = y := ⟨_, rfl⟩
 obtain ⟨p, hp⟩ : ∃ y, 1 + n3 % 20 = y := ⟨_, rfl⟩
 obtain ⟨u, hu⟩ : ∃ y, 1 + n4 % 6 = y := ⟨_, rfl⟩
 have hRR : RR t p u := by unfold RR; omega
 have hM0 := MD.new (S := S) (lim := lim) hS1 (by omega) hRR ⟨hl1, by omega⟩
 refine wp_seq_k ?_; intro K1112 hK1112
 refine wp_region_lit ?_
 refine sB (Bbox hS hR rfl (by rfl) (by decide) ?_); clear hS hR; intro aa ww bb2 hS hR
 revert aa
 refine qN hR ?_
 intro aa hS
 refine wpList_nil ?_
 refine hK1112 _ _ ?_
 refine wp_seq_k ?_; intro K1113 hK1113
 refine wp_seq_k ?_; intro K1114 hK1114
 refine wp_region_lit ?_
 refine sB (Bcall hS rfl Try.call8 (awake34_ok hR) (by decide) ?_); clear hS; intro aa ww vv hS hp
 clear hR
 obtain ⟨rfl, hR⟩ := hp
 refine sA hS hR (Yld.not hS rfl) (by decide) ?_; clear hS; intro aa hS
 refine wpList_nil ?_
 refine hK1114 _ _ ?_
 refine condF hS rfl ?_
 refine wp_skip ?_
 refine hK1113 _ _ ?_
 refine wp_seq_k ?_; intro K1115 hK1115
 refine wp_region_lit ?_
 refine sA hS hR (Yld.loadAgg hS rfl Try.underlying23 rfl info23 (by first | exact Rds.cons (Rd.blk pkQ (by rfl)) (Rds.cons (Rd.blk pkQ (by rfl)) (Rds.cons (Rd.blk pkQ (by rfl)) (Rds.cons (Rd.blk pkQ (by rfl)) (Rds.cons (Rd.blk pkQ (by rfl)) (Rds.nil))))) | exact Rds.rec pkQ (by intro _; rfl) (by first | omega | (rw [cst_len, ho]; simp) | (rw [cst_len]; omega)) | exact Rds.flat1 pkQ (by intro _; rfl) (by first | omega | (rw [cst_len, ho]; simp) | (rw [cst_len]; omega))) (by rfl)) (by decide) ?_; clear hS; intro aa hS
 refine sB (Bcall hS rfl Try.call16 (of_ok h0 h1 h2 h3 h4 hR) (by decide) ?_); clear hS; intro aa ww vv hS hp
 clear hR
 obtain ⟨rfl, hR⟩ := hp
 rw [hSe, hle, ht, hp, hu] at hS
 refine sB (Balloc hS hR info31 (by rfl) (by rfl) (by decide) ?_); clear hS hR; intro aa ww bb5 hS hR
 refine sB (Bstore hS hR rfl rfl (by rfl) info31 (by rfl) pkQ (by rfl) (Nat.le_of_ble_eq_true rfl) ?_); clear hR; intro ww hR
 refine wpList_nil ?_
 refine hK1115 _ _ ?_
 refine wp_seq_k ?_; intro K1116 hK1116
 refine wp_region_lit ?_
 refine sA hS hR (Yld.loadAgg hS rfl Try.underlying31 rfl info31 (by first | exact Rds.cons (Rd.blk pkQ (by rfl)) (Rds.cons (Rd.blk pkQ (by rfl)) (Rds.cons (Rd.blk pkQ (by rfl)) (Rds.cons (Rd.blk pkQ (by rfl)) (Rds.cons (Rd.blk pkQ (by rfl)) (Rds.nil))))) | exact Rds.rec pkQ (by intro _; rfl) (by first | omega | (rw [cst_len, ho]; simp) | (rw [cst_len]; omega)) | exact Rds.flat1 pkQ (by intro _; rfl) (by first | omega | (rw [cst_len, ho]; simp) | (rw [cst_len]; omega))) (by rfl)) (by decide) ?_; clear hS; intro aa hS
 refine sB (Bcall hS rfl Try.call17 (adNew_ok (S := S) (lim := lim) hS1 (by omega) hl1 (by omega) hRR hR) (by decide) ?_); clear hS; intro aa ww vv hS hp
 clear hR
 obtain ⟨b, rfl, hR⟩ := hp
 change Sep (deskA dd b S lim (t, p, u) (D0 S) :: _) _ at hR
 revert aa
 refine qM hR ?_
 refine qX hR ?_
 refine qX hR ?_
 refine qN hR ?_
 refine qN hR ?_
 intro aa hS
 refine wpList_nil ?_
 refine hK1116 _ _ ?_
 refine wp_seq_k ?_; intro K1117 hK1117
 refine wp_seq_k ?_; intro K1118 hK1118
 refine wp_region_lit ?_
 revert aa
 refine qM hR ?_
 refine qA hR rfl (fun _ hS => Yld.neq hS rfl rfl) ?_
 refine qB (t := 28) false rfl (by decide) ?_
 refine qM hR ?_
 refine qMg hR ?_
 refine qAg hR rfl rfl rfl (fun _ hS => Yld.eqlNil hS rfl rfl Try.underlying27) ?_
 refine qB (t := 31) false rfl (by rfl) ?_
 refine qA hR rfl (fun _ hS => Yld.pickF hS rfl rfl) ?_
 intro aa hS
 refine wpList_nil ?_
 refine hK1118 _ _ ?_
 refine condF hS rfl ?_
 refine wp_skip ?_
 refine hK1117 _ _ ?_
 refine wp_seq_k ?_; intro K1119 hK1119
 refine wp_seq_k ?_; intro K1120 hK1120
 refine wp_region_lit ?_
 revert aa
 refine qM hR ?_
 refine qM hR ?_
 refine qA hR rfl (fun _ hS => Yld.len hS rfl Try.underlying24) ?_
 refine qA hR rfl (fun _ hS => Yld.min hS rfl rfl) ?_
 refine qA hR rfl (fun _ hS => Yld.sliceHi hS rfl rfl Try.underlying24 info49 (by omega) (by omega)) ?_
 intro aa hS
 obtain ⟨mm, hmm0, hmm1⟩ : ∃ y : Nat, (Min.min (n : Int) 80).toNat = y ∧ y ≤ n ∧ y ≤ 80 := ⟨_, rfl, by omega, by omega⟩
 replace hS := hS.say (t := 37) (.slice q mm c) rfl (by rw [hmm0])
 revert aa
 refine qA hR rfl (fun _ hS => Yld.len hS rfl Try.underlying24) ?_
 refine qM hR ?_
 intro aa hS
 refine wpList_nil ?_
 refine hK1120 _ _ ?_
 refine wp_block ?_
 rw [show D0 S = fD S lim t p u (D0 S) xs 0 from fD_zero.symm] at hR
 replace hR := hR.pk (r := deskA dd b S lim (t, p, u) (fD S lim t p u (D0 S) xs 0)) pkQ
 refine loopI (X := Nat) [(5, _), (6, _), (37, _), (38, _)] (fun x => [(39, .int .i64 (x : Int))]) (fun x => [deskA dd b S lim (t, p, u) (fD S lim t p u (D0 S) xs x)]) _ (fun x => x ≤ mm ∧ MD S lim t p u x (fD S lim t p u (D0 S) xs x)) (fun x => mm - x) 0 ⟨Nat.zero_le _, by rw [fD_zero]; exact hM0⟩ (hS.le (Le.cons rfl (Le.nilapp (Le.cons rfl (Le.cons rfl (Le.cons rfl (Le.cons rfl (Le.nil _)))))))) hR ?_
 clear hS hR; rintro k aa ww hI hS hR; dsimp only [List.cons_append, List.nil_append] at hI hS hR
 refine wp_seq_k ?_; intro K1122 hK1122
 refine wp_region_lit ?_
 refine sA hS hR (Yld.lss hS rfl rfl) (by decide) ?_; clear hS; intro aa hS
 refine wpList_nil ?_
 refine hK1122 _ _ ?_
 refine wp_seq_k ?_; intro K1123 hK1123
 refine hS.splitB (t := 40) rfl ?_ ?_ <;> clear hS
 ·
  intro hg hS
  refine condT hS rfl ?_
  refine wp_skip ?_
  refine hK1123 _ _ ?_
  refine wp_seq_k ?_; intro K1124 hK1124
  refine wp_block ?_
  refine wp_seq_k ?_; intro K1125 hK1125
  refine wp_region_lit ?_
  obtain ⟨ba, ia, ns, hq, hx, hl, hw, hc⟩ := A1.at (k := k) (by omega)
  obtain ⟨s0, s1, s2, rfl⟩ := len3 hl
  subst hq
  have hw0 : 0 ≤ s0 ∧ s0 ≤ 255 := hw.1
  have hw1 : 0 ≤ s1 ∧ s1 ≤ 4294967295 := hw.2.1
  have hM := hI.2
  obtain ⟨D, hDe⟩ : ∃ y, fD S lim t p u (D0 S) xs k = y := ⟨_, rfl⟩
  rw [hDe] at hR hM
  have hll := hM.f.w.sf.lim (s1 % 6)
  have hol := hM.f.w.olen
  revert aa
  refine qA hR rfl (fun _ hS => by first | exact Yld.indexL (sz := 3) _ hS rfl rfl Try.underlying24 info49 pkQ rfl rfl (by omega) | exact Yld.indexB (sz := 3) _ hS rfl rfl Try.underlying24 info49 rfl rfl (by omega) | exact Yld.indexSlice hS rfl rfl Try.underlying24 info49 (by omega) (by omega)) ?_
  refine qA hR rfl (fun _ hS => Yld.loadAgg (vs := [.int .u8 s0, .int .u32 s1, .int .i64 s2]) hS rfl Try.underlying49 rfl info49 (Rds.at (Rds.old pkQ hc) (by rfl)) (by rfl)) ?_
  intro aa hS
  refine sB (Balloc hS hR info49 (by rfl) (by rfl) (by decide) ?_); clear hS hR; intro aa ww bb9 hS hR
  refine sB (Bstore hS hR rfl rfl (by rfl) info49 (by rfl) pkQ (by rfl) (Nat.le_of_ble_eq_true rfl) ?_); clear hR; intro ww hR
  refine wpList_nil ?_
  refine hK1125 _ _ ?_
  refine wp_seq_k ?_; intro K1126 hK1126
  refine wp_region_lit ?_
  refine sA hS hR (Yld.fieldAddr hS rfl 1 Try.underlying49 rfl rfl info25 (by decide)) (by decide) ?_; clear hS; intro aa hS
  refine sA hS hR (Yld.load1 hS rfl Try.underlying25 rfl (by first | exact Rd.blk pkQ (by rfl) | exact Rd.rec pkQ (by intro _; rfl) (by first | omega | (rw [cst_len, ho]; simp) | (rw [cst_len]; omega)) rfl | exact Rd.rec0 pkQ (by intro _; rfl) (by first | omega | (rw [cst_len, ho]; simp) | (rw [cst_len]; omega)) rfl | exact Rd.flatJ pkQ (by intro _; rfl) (by first | omega | (rw [cst_len, ho]; simp) | (rw [cst_len]; omega)) rfl | exact Rd.flat0 pkQ (by intro _; rfl) (by first | omega | (rw [cst_len, ho]; simp) | (rw [cst_len]; omega)) rfl)) (by decide) ?_; clear hS; intro aa hS
  revert aa
  refine qA hR rfl (fun _ hS => by first | exact Yld.rem64 hS rfl rfl (by omega) | exact Yld.rem hS rfl rfl (by omega)) ?_
  refine qN hR ?_
  intro aa hS
  refine wpList_nil ?_
  refine hK1126 _ _ ?_
  refine wp_seq_k ?_; intro K1127 hK1127
  refine wp_region_lit ?_
  revert aa
  refine qM hR ?_
  intro aa hS
  refine sB (Bcall hS rfl Try.call18 (adUnassured_ok (hR.pk (r := deskA _ b _ _ _ _) pkQ)) (by decide) ?_); clear hS; intro aa ww vv hS hp
  clear hR
  obtain ⟨ra, ca, rfl, hR⟩ := hp
  have hordl := Nat.le_trans hM.f.w.ordLen hM.f.w.olen
  revert aa
  refine qM hR ?_
  intro aa hS
  refine sB (Bcall hS rfl Try.call19 (adLen_ok hM.f.w (hR.pk (r := deskA _ b _ _ _ _) pkQ)) (by decide) ?_); clear hS; intro aa ww vv hS hp
  clear hR
  obtain ⟨rfl, hR⟩ := hp
  revert aa
  refine qM hR ?_
  refine qM hR ?_
  intro aa hS
  refine sB (Bcall hS rfl Try.call11 (adCount_ok (a := s1 % 6) (by omega) (hR.pk (r := deskA _ b _ _ _ _) pkQ)) (by decide) ?_); clear hS; intro aa ww vv hS hp
  clear hR
  obtain ⟨rfl, hR⟩ := hp
  revert aa
  refine qN hR ?_
  refine qN hR ?_
  refine qN hR ?_
  intro aa hS
  refine wpList_nil ?_
  refine hK1127 _ _ ?_
  refine wp_seq_k ?_; intro K1128 hK1128
  refine wp_region_lit ?_
  revert aa
  refine qM hR ?_
  refine qA hR rfl (fun _ hS => Yld.fieldAddr hS rfl 0 Try.underlying31 rfl rfl info3 (by decide)) ?_
  intro aa hS
  refine sA hS hR (Yld.load1 hS rfl Try.underlying3 rfl (by first | exact Rd.blk pkQ (by rfl) | exact Rd.rec pkQ (by intro _; rfl) (by first | omega | (rw [cst_len, ho]; simp) | (rw [cst_len]; omega)) rfl | exact Rd.rec0 pkQ (by intro _; rfl) (by first | omega | (rw [cst_len, ho]; simp) | (rw [cst_len]; omega)) rfl | exact Rd.flatJ pkQ (by intro _; rfl) (by first | omega | (rw [cst_len, ho]; simp) | (rw [cst_len]; omega)) rfl | exact Rd.flat0 pkQ (by intro _; rfl) (by first | omega | (rw [cst_len, ho]; simp) | (rw [cst_len]; omega)) rfl)) (by decide) ?_; clear hS; intro aa hS
  refine sA hS hR (Yld.loadAgg hS rfl Try.underlying49 rfl info49 (by first | exact Rds.cons (Rd.blk pkQ (by rfl)) (Rds.cons (Rd.blk pkQ (by rfl)) (Rds.cons (Rd.blk pkQ (by rfl)) (Rds.nil))) | exact Rds.rec pkQ (by intro _; rfl) (by first | omega | (rw [cst_len, ho]; simp) | (rw [cst_len]; omega)) | exact Rds.flat1 pkQ (by intro _; rfl) (by first | omega | (rw [cst_len, ho]; simp) | (rw [cst_len]; omega))) (by rfl)) (by decide) ?_; clear hS; intro aa hS
  refine sB (Bcall hS rfl Try.call20 (do_ok (k := s0) (a := s1) (x := s2) hM (by omega) hS1 (by omega) hw0 hw1 (hR.pk (r := deskA _ b _ _ _ _) pkQ)) (by decide) ?_); clear hS; intro aa ww vv hS hp
  clear hR
  obtain ⟨rfl, hR⟩ := hp
  obtain ⟨rr, hrr⟩ : ∃ y, doD S lim t p u D s0 s1 s2 = y := ⟨_, rfl⟩
  have hM2 := hM.do (k := s0) (a := s1) (x := s2) hw1.1 (by omega)
  have hfi := do_fair (k := s0) (a := s1) (x := s2) hM (by omega) hw1.1
  rw [hrr] at hS hR hM2 hfi
  obtain ⟨⟨r1, r2, r3, r4⟩, tr, E⟩ := rr
  unfold doV at hS
  dsimp only at hS hR hM2 hfi
  have hE2 := hM2.f.w.olen
  have hEl := hM2.f.w.sf.lim (s1 % 6)
  have hfE : fD S lim t p u (D0 S) xs (k + 1) = E := by rw [fD_succ hx, hDe, hrr]
  revert aa
  refine qM hR ?_
  refine qX hR ?_
  refine qX hR ?_
  intro aa hS
  refine sB (Balloc hS hR info36 (by rfl) (by rfl) (by decide) ?_); clear hS hR; intro aa ww bb14 hS hR
  refine sB (Bstore hS hR rfl rfl (by rfl) info36 (by rfl) pkQ (by rfl) (Nat.le_of_ble_eq_true rfl) ?_); clear hR; intro ww hR
  revert aa
  refine qN hR ?_
  intro aa hS
  refine wpList_nil ?_
  refine hK1128 _ _ ?_
  refine wp_seq_k ?_; intro K1129 hK1129
  refine wp_seq_k ?_; intro K1130 hK1130
  refine drawn krQ hR Ex.refl ?_; clear hR; intro ww hR hR0
  revert aa
  refine eA 0 rfl krQ (fun _ _ _ h => h) hR0 rfl (fun _ hS => Yld.move hS rfl) ?_
  refine eA 2 rfl krQ (fun _ _ _ h => h) hR0 rfl (fun _ hS => Yld.fieldAddr hS rfl 0 Try.underlying31 rfl rfl info3 (by decide)) ?_
  intro aa hS
  refine dA 3 rfl krQ krQ krQ (fun _ _ _ h => h) hS hR0 (Yld.load1 hS rfl Try.underlying3 rfl (by first | exact Rd.blk pkQ (by rfl) | exact Rd.rec pkQ (by intro _; rfl) (by first | omega | (rw [cst_len, ho]; simp) | (rw [cst_len]; omega)) rfl | exact Rd.rec0 pkQ (by intro _; rfl) (by first | omega | (rw [cst_len, ho]; simp) | (rw [cst_len]; omega)) rfl | exact Rd.flatJ pkQ (by intro _; rfl) (by first | omega | (rw [cst_len, ho]; simp) | (rw [cst_len]; omega)) rfl | exact Rd.flat0 pkQ (by intro _; rfl) (by first | omega | (rw [cst_len, ho]; simp) | (rw [cst_len]; omega)) rfl)) (by decide) ?_; clear hS; intro aa hS
  refine dOne (i := 1) krQ ?_
  refine dop rfl (Bcall hS rfl Try.call19 (adLen_ok hM2.f.w (hR.pk (r := deskA _ b _ _ _ _) pkQ)) (by decide) ?_); clear hS; intro aa ww vv hS hp
  clear hR hR0
  obtain ⟨rfl, hR⟩ := hp
  refine dnext (hR.sub exQ) ?_; intro hR0
  revert aa
  refine eA 4 rfl krQ (fun _ _ _ h => h) hR0 rfl (fun _ hS => Yld.gtr hS rfl rfl) ?_
  refine qB (t := 65) false rfl (by exact decide_eq_false (by omega)) ?_
  refine eA 5 rfl krQ (fun _ _ _ h => h) hR0 rfl (fun _ hS => Yld.move hS rfl) ?_
  refine eAg 6 rfl krQ (fun _ _ _ h => h) hR0 rfl rfl rfl (fun _ hS => Yld.move hS rfl) ?_
  intro aa hS
  refine dOne (i := 7) krQ ?_
  refine dopg rfl hS rfl rfl (Bcall hS rfl Try.call19 (adLen_ok hM2.f.w (hR.pk (r := deskA _ b _ _ _ _) pkQ)) (by decide) ?_); clear hS; intro aa ww vv hS hp
  clear hR hR0
  obtain ⟨rfl, hR⟩ := hp
  refine dnext (hR.sub exQ) ?_; intro hR0
  revert aa
  refine eAg 8 rfl krQ (fun _ _ _ h => h) hR0 rfl rfl rfl (fun _ hS => Yld.lss hS rfl rfl) ?_
  refine qB (t := 69) false rfl (by exact decide_eq_false (by omega)) ?_
  refine eA 9 rfl krQ (fun _ _ _ h => h) hR0 rfl (fun _ hS => Yld.pickF hS rfl rfl) ?_
  refine eA 10 rfl krQ (fun _ _ _ h => h) hR0 rfl (fun _ hS => Yld.move hS rfl) ?_
  refine eAg 11 rfl krQ (fun _ _ _ h => h) hR0 rfl rfl rfl (fun _ hS => Yld.move hS rfl) ?_
  refine eAg 12 rfl krQ (fun _ _ _ h => h) hR0 rfl rfl rfl (fun _ hS => Yld.move hS rfl) ?_
  refine eAg 14 rfl krQ (fun _ _ _ h => h) hR0 rfl rfl rfl (fun _ hS => Yld.fieldAddr hS rfl 1 Try.underlying31 rfl rfl info3 (by decide)) ?_
  intro aa hS
  refine dAg 15 rfl krQ krQ krQ (fun _ _ _ h => h) hS rfl rfl hR0 (Yld.load1 hS rfl Try.underlying3 rfl (by first | exact Rd.blk pkQ (by rfl) | exact Rd.rec pkQ (by intro _; rfl) (by first | omega | (rw [cst_len, ho]; simp) | (rw [cst_len]; omega)) rfl | exact Rd.rec0 pkQ (by intro _; rfl) (by first | omega | (rw [cst_len, ho]; simp) | (rw [cst_len]; omega)) rfl | exact Rd.flatJ pkQ (by intro _; rfl) (by first | omega | (rw [cst_len, ho]; simp) | (rw [cst_len]; omega)) rfl | exact Rd.flat0 pkQ (by intro _; rfl) (by first | omega | (rw [cst_len, ho]; simp) | (rw [cst_len]; omega)) rfl)) (by decide) ?_; clear hS; intro aa hS
  refine dOne (i := 13) krQ ?_
  refine dopg rfl hS rfl rfl (Bcall hS rfl Try.call11 (adCount_ok (a := s1 % 6) (by omega) (hR.pk (r := deskA _ b _ _ _ _) pkQ)) (by decide) ?_); clear hS; intro aa ww vv hS hp
  clear hR hR0
  obtain ⟨rfl, hR⟩ := hp
  refine dnext (hR.sub exQ) ?_; intro hR0
  revert aa
  refine eAg 16 rfl krQ (fun _ _ _ h => h) hR0 rfl rfl rfl (fun _ hS => Yld.gtr hS rfl rfl) ?_
  refine qB (t := 77) false rfl (by exact decide_eq_false (by omega)) ?_
  refine eA 17 rfl krQ (fun _ _ _ h => h) hR0 rfl (fun _ hS => Yld.pickF hS rfl rfl) ?_
  intro aa hS
  refine wpAnyH_done krQ ?_ _; clear hR0
  refine hK1130 _ _ ?_
  refine condF hS rfl ?_
  refine wp_skip ?_
  refine hK1129 _ _ ?_
  refine wp_seq_k ?_; intro K1131 hK1131
  refine wp_seq_k ?_; intro K1132 hK1132
  refine wp_region_lit ?_
  revert aa
  refine qM hR ?_
  refine qA hR rfl (fun _ hS => Yld.not hS rfl) ?_
  intro aa hS
  refine wpList_nil ?_
  refine hK1132 _ _ ?_
  refine hS.splitB (t := 80) rfl ?_ ?_ <;> clear hS
  ·
   intro hg hS
   refine condT hS rfl ?_
   refine wp_exit ?_
   refine hK1124 _ _ ?_
   refine wp_region_lit ?_
   refine sA hS hR adQ (by decide) ?_; clear hS; intro aa hS
   revert aa
   refine qM hR ?_
   intro aa hS
   refine wpList_nil ?_
   rw [← hfE] at hR hM2
   refine ⟨k + 1, ?_, ?_, hS.le (Le.cons rfl (Le.nilapp (Le.cons rfl (Le.cons rfl (Le.cons rfl (Le.cons rfl (Le.nil _))))))), hR.sub (Ex.take pkQ (Ex.nilapp exQ))⟩
   ·
    exact ⟨by omega, hM2⟩
   ·
    omega
  ·
   intro hg hS
   have hF := hfi (by simpa using hg)
   refine condF hS rfl ?_
   refine wp_skip ?_
   refine hK1131 _ _ ?_
   refine wp_seq_k ?_; intro K1133 hK1133
   refine wp_region_lit ?_
   revert aa
   refine qM hR ?_
   refine qA hR rfl (fun _ hS => Yld.fieldAddr hS rfl 0 Try.underlying31 rfl rfl info3 (by decide)) ?_
   intro aa hS
   refine sA hS hR (Yld.load1 hS rfl Try.underlying3 rfl (by first | exact Rd.blk pkQ (by rfl) | exact Rd.rec pkQ (by intro _; rfl) (by first | omega | (rw [cst_len, ho]; simp) | (rw [cst_len]; omega)) rfl | exact Rd.rec0 pkQ (by intro _; rfl) (by first | omega | (rw [cst_len, ho]; simp) | (rw [cst_len]; omega)) rfl | exact Rd.flatJ pkQ (by intro _; rfl) (by first | omega | (rw [cst_len, ho]; simp) | (rw [cst_len]; omega)) rfl | exact Rd.flat0 pkQ (by intro _; rfl) (by first | omega | (rw [cst_len, ho]; simp) | (rw [cst_len]; omega)) rfl)) (by decide) ?_; clear hS; intro aa hS
   refine sA hS hR (Yld.eql hS rfl rfl) (by decide) ?_; clear hS; intro aa hS
   refine hS.splitB (t := 84) rfl ?_ ?_ <;> clear hS
   ·
    intro hg hS
    have hfl : D.T.O.length = S := by omega
    revert aa
    refine qN hR ?_
    intro aa hS
    refine wpList_nil ?_
    refine hK1133 _ _ ?_
    refine wp_seq_k ?_; intro K1134 hK1134
    refine wp_region_lit ?_
    refine sA hS hR (Yld.fieldAddr hS rfl 0 Try.underlying36 rfl rfl info5 (by decide)) (by decide) ?_; clear hS; intro aa hS
    refine sA hS hR (Yld.load1 hS rfl Try.underlying5 rfl (by first | exact Rd.blk pkQ (by rfl) | exact Rd.rec pkQ (by intro _; rfl) (by first | omega | (rw [cst_len, ho]; simp) | (rw [cst_len]; omega)) rfl | exact Rd.rec0 pkQ (by intro _; rfl) (by first | omega | (rw [cst_len, ho]; simp) | (rw [cst_len]; omega)) rfl | exact Rd.flatJ pkQ (by intro _; rfl) (by first | omega | (rw [cst_len, ho]; simp) | (rw [cst_len]; omega)) rfl | exact Rd.flat0 pkQ (by intro _; rfl) (by first | omega | (rw [cst_len, ho]; simp) | (rw [cst_len]; omega)) rfl)) (by decide) ?_; clear hS; intro aa hS
    revert aa
    refine qA hR rfl (fun _ hS => Yld.neq hS rfl rfl) ?_
    refine qN hR ?_
    intro aa hS
    refine wpList_nil ?_
    refine hK1134 _ _ ?_
    refine wp_seq_k ?_; intro K1135 hK1135
    refine wp_seq_k ?_; intro K1136 hK1136
    refine wp_region_lit ?_
    refine sA hS hR (Yld.fieldAddr hS rfl 0 Try.underlying36 rfl rfl info5 (by decide)) (by decide) ?_; clear hS; intro aa hS
    refine sA hS hR (Yld.load1 hS rfl Try.underlying5 rfl (by first | exact Rd.blk pkQ (by rfl) | exact Rd.rec pkQ (by intro _; rfl) (by first | omega | (rw [cst_len, ho]; simp) | (rw [cst_len]; omega)) rfl | exact Rd.rec0 pkQ (by intro _; rfl) (by first | omega | (rw [cst_len, ho]; simp) | (rw [cst_len]; omega)) rfl | exact Rd.flatJ pkQ (by intro _; rfl) (by first | omega | (rw [cst_len, ho]; simp) | (rw [cst_len]; omega)) rfl | exact Rd.flat0 pkQ (by intro _; rfl) (by first | omega | (rw [cst_len, ho]; simp) | (rw [cst_len]; omega)) rfl)) (by decide) ?_; clear hS; intro aa hS
    refine wpList_nil ?_
    refine hK1136 _ _ ?_
    refine wp_block ?_
    refine wp_seq_k ?_; intro K1137 hK1137
    refine wp_region_lit ?_
    revert aa
    refine qA hR rfl (fun _ hS => Yld.eql hS rfl rfl) ?_
    refine qN hR ?_
    intro aa hS
    refine wpList_nil ?_
    refine hK1137 _ _ ?_
    refine hS.splitB (t := 90) rfl ?_ ?_ <;> clear hS
    ·
     intro hg hS
     subst hg
     obtain ⟨e2, e3, e4, hET, hEo⟩ := hF.ref (show ¬ (27 : Int) = 22 by decide)
     dsimp only at e2 e3 e4 hET hEo
     subst e2 e3 e4
     have h9 := hF.r27 rfl
     refine condT hS rfl ?_
     refine wp_region_lit ?_
     revert aa
     refine qM hR ?_
     refine qB (t := 92) true rfl (by rfl) ?_
     refine qM hR ?_
     refine qMg hR ?_
     refine qAg hR rfl rfl rfl (fun _ hS => Yld.fieldAddr hS rfl 1 Try.underlying31 rfl rfl info3 (by decide)) ?_
     intro aa hS
     refine sAg hS hR rfl rfl (Yld.load1 hS rfl Try.underlying3 rfl (by first | exact Rd.blk pkQ (by rfl) | exact Rd.rec pkQ (by intro _; rfl) (by first | omega | (rw [cst_len, ho]; simp) | (rw [cst_len]; omega)) rfl | exact Rd.rec0 pkQ (by intro _; rfl) (by first | omega | (rw [cst_len, ho]; simp) | (rw [cst_len]; omega)) rfl | exact Rd.flatJ pkQ (by intro _; rfl) (by first | omega | (rw [cst_len, ho]; simp) | (rw [cst_len]; omega)) rfl | exact Rd.flat0 pkQ (by intro _; rfl) (by first | omega | (rw [cst_len, ho]; simp) | (rw [cst_len]; omega)) rfl)) (by decide) ?_; clear hS; intro aa hS
     revert aa
     refine qAg hR rfl rfl rfl (fun _ hS => Yld.eql hS rfl rfl) ?_
     refine qB (t := 97) true rfl (by exact decide_eq_true (by omega)) ?_
     refine qA hR rfl (fun _ hS => Yld.pickT hS rfl rfl) ?_
     refine qN hR ?_
     intro aa hS
     refine wpList_nil ?_
     refine hK1135 _ _ ?_
     refine wp_seq_k ?_; intro K1138 hK1138
     refine wp_region_lit ?_
     refine sA hS hR (Yld.fieldAddr hS rfl 0 Try.underlying36 rfl rfl info5 (by decide)) (by decide) ?_; clear hS; intro aa hS
     refine sA hS hR (Yld.load1 hS rfl Try.underlying5 rfl (by first | exact Rd.blk pkQ (by rfl) | exact Rd.rec pkQ (by intro _; rfl) (by first | omega | (rw [cst_len, ho]; simp) | (rw [cst_len]; omega)) rfl | exact Rd.rec0 pkQ (by intro _; rfl) (by first | omega | (rw [cst_len, ho]; simp) | (rw [cst_len]; omega)) rfl | exact Rd.flatJ pkQ (by intro _; rfl) (by first | omega | (rw [cst_len, ho]; simp) | (rw [cst_len]; omega)) rfl | exact Rd.flat0 pkQ (by intro _; rfl) (by first | omega | (rw [cst_len, ho]; simp) | (rw [cst_len]; omega)) rfl)) (by decide) ?_; clear hS; intro aa hS
     revert aa
     refine qA hR rfl (fun _ hS => Yld.neq hS rfl rfl) ?_
     refine qB (t := 188) true rfl (by decide) ?_
     refine qM hR ?_
     refine qMg hR ?_
     refine qAg hR rfl rfl rfl (fun _ hS => Yld.not hS rfl) ?_
     refine qMg hR ?_
     intro aa hS
     refine sAg hS hR rfl rfl (Yld.loadAgg hS rfl Try.underlying36 rfl info36 (by first | exact Rds.cons (Rd.blk pkQ (by rfl)) (Rds.cons (Rd.blk pkQ (by rfl)) (Rds.cons (Rd.blk pkQ (by rfl)) (Rds.cons (Rd.blk pkQ (by rfl)) (Rds.nil)))) | exact Rds.rec pkQ (by intro _; rfl) (by first | omega | (rw [cst_len, ho]; simp) | (rw [cst_len]; omega)) | exact Rds.flat1 pkQ (by intro _; rfl) (by first | omega | (rw [cst_len, ho]; simp) | (rw [cst_len]; omega))) (by rfl)) (by decide) ?_; clear hS; intro aa hS
     refine sAg hS hR rfl rfl (Yld.fieldAddr hS rfl 0 Try.underlying36 rfl rfl info5 (by decide)) (by decide) ?_; clear hS; intro aa hS
     refine sAg hS hR rfl rfl (Yld.load1 hS rfl Try.underlying5 rfl (by first | exact Rd.blk pkQ (by rfl) | exact Rd.rec pkQ (by intro _; rfl) (by first | omega | (rw [cst_len, ho]; simp) | (rw [cst_len]; omega)) rfl | exact Rd.rec0 pkQ (by intro _; rfl) (by first | omega | (rw [cst_len, ho]; simp) | (rw [cst_len]; omega)) rfl | exact Rd.flatJ pkQ (by intro _; rfl) (by first | omega | (rw [cst_len, ho]; simp) | (rw [cst_len]; omega)) rfl | exact Rd.flat0 pkQ (by intro _; rfl) (by first | omega | (rw [cst_len, ho]; simp) | (rw [cst_len]; omega)) rfl)) (by decide) ?_; clear hS; intro aa hS
     revert aa
     refine qAg hR rfl rfl rfl (fun _ hS => Yld.build hS rfl (bld36_0 _)) ?_
     refine qAg hR rfl rfl rfl (fun _ hS => Yld.binRun hS rfl rfl (neq36 _ _ _ _ _ _ _ _ _ _)) ?_
     refine qB (t := 197) false rfl (by simp) ?_
     refine qAg hR rfl rfl rfl (fun _ hS => Yld.pickF hS rfl rfl) ?_
     refine qMg hR ?_
     refine qMg hR ?_
     intro aa hS
     refine sBg hS rfl rfl (Bcall hS rfl Try.call19 (adLen_ok hM2.f.w (hR.pk (r := deskA _ b _ _ _ _) pkQ)) (by decide) ?_); clear hS; intro aa ww vv hS hp
     clear hR
     obtain ⟨rfl, hR⟩ := hp
     rw [hET] at hS
     revert aa
     refine qMg hR ?_
     refine qAg hR rfl rfl rfl (fun _ hS => Yld.neq hS rfl rfl) ?_
     refine qB (t := 203) false rfl (by simp) ?_
     refine qAg hR rfl rfl rfl (fun _ hS => Yld.pickF hS rfl rfl) ?_
     refine qMg hR ?_
     refine qMg hR ?_
     intro aa hS
     refine sBg hS rfl rfl (Bcall hS rfl Try.call18 (adUnassured_ok (hR.pk (r := deskA _ b _ _ _ _) pkQ)) (by decide) ?_); clear hS; intro aa ww vv hS hp
     clear hR
     obtain ⟨rb, cb, rfl, hR⟩ := hp
     rw [hEo] at hS hR
     revert aa
     refine qMg hR ?_
     intro aa hS
     refine sBg hS rfl rfl (Bcall hS rfl Try.call21 (eqI_ok (q1 := rb) (q2 := ra) (by rw [cst_len]; omega) (by rw [cst_len]; omega) ((hR.pk (r := sls ra _ _ _ _ _) pkQ).pk (r := sls rb _ _ _ _ _) pkQ)) (by decide) ?_); clear hS; intro aa ww vv hS hp
     clear hR
     obtain ⟨rfl, hR⟩ := hp
     rw [decide_eq_true rfl] at hS
     revert aa
     refine qAg hR rfl rfl rfl (fun _ hS => Yld.not hS rfl) ?_
     refine qB (t := 210) false rfl (by rfl) ?_
     refine qAg hR rfl rfl rfl (fun _ hS => Yld.pickF hS rfl rfl) ?_
     refine qA hR rfl (fun _ hS => Yld.pickT hS rfl rfl) ?_
     intro aa hS
     refine wpList_nil ?_
     refine hK1138 _ _ ?_
     refine condF hS rfl ?_
     refine wp_skip ?_
     refine hK1124 _ _ ?_
     refine wp_region_lit ?_
     refine sA hS hR adQ (by decide) ?_; clear hS; intro aa hS
     revert aa
     refine qM hR ?_
     intro aa hS
     refine wpList_nil ?_
     rw [← hfE] at hR hM2
     refine ⟨k + 1, ?_, ?_, hS.le (Le.cons rfl (Le.nilapp (Le.cons rfl (Le.cons rfl (Le.cons rfl (Le.cons rfl (Le.nil _))))))), hR.sub (Ex.take pkQ (Ex.nilapp exQ))⟩
     ·
      exact ⟨by omega, hM2⟩
     ·
      omega
    ·
     intro hg hS
     refine condF hS rfl ?_
     refine wp_seq_k ?_; intro K1139 hK1139
     refine wp_region_lit ?_
     revert aa
     refine qA hR rfl (fun _ hS => Yld.eql hS rfl rfl) ?_
     refine qN hR ?_
     intro aa hS
     refine wpList_nil ?_
     refine hK1139 _ _ ?_
     refine hS.splitB (t := 99) rfl ?_ ?_ <;> clear hS
     ·
      intro hg hS
      subst hg
      obtain ⟨e2, e3, e4, hET, hEo⟩ := hF.ref (show ¬ (28 : Int) = 22 by decide)
      dsimp only at e2 e3 e4 hET hEo
      subst e2 e3 e4
      obtain ⟨h9, htz⟩ := hF.r28 rfl
      refine condT hS rfl ?_
      refine wp_region_lit ?_
      revert aa
      refine qM hR ?_
      refine qB (t := 101) true rfl (by rfl) ?_
      refine qM hR ?_
      refine qMg hR ?_
      refine qAg hR rfl rfl rfl (fun _ hS => Yld.fieldAddr hS rfl 1 Try.underlying31 rfl rfl info3 (by decide)) ?_
      intro aa hS
      refine sAg hS hR rfl rfl (Yld.load1 hS rfl Try.underlying3 rfl (by first | exact Rd.blk pkQ (by rfl) | exact Rd.rec pkQ (by intro _; rfl) (by first | omega | (rw [cst_len, ho]; simp) | (rw [cst_len]; omega)) rfl | exact Rd.rec0 pkQ (by intro _; rfl) (by first | omega | (rw [cst_len, ho]; simp) | (rw [cst_len]; omega)) rfl | exact Rd.flatJ pkQ (by intro _; rfl) (by first | omega | (rw [cst_len, ho]; simp) | (rw [cst_len]; omega)) rfl | exact Rd.flat0 pkQ (by intro _; rfl) (by first | omega | (rw [cst_len, ho]; simp) | (rw [cst_len]; omega)) rfl)) (by decide) ?_; clear hS; intro aa hS
      revert aa
      refine qAg hR rfl rfl rfl (fun _ hS => Yld.lss hS rfl rfl) ?_
      refine qB (t := 106) true rfl (by exact decide_eq_true (by omega)) ?_
      refine qA hR rfl (fun _ hS => Yld.pickT hS rfl rfl) ?_
      refine qM hR ?_
      refine qMg hR ?_
      refine qMg hR ?_
      intro aa hS
      refine sBg hS rfl rfl (Bcall hS rfl Try.call10 (adTokens_ok (a := s1 % 6) hM2.f (by omega) (hR.pk (r := deskA _ b _ _ _ _) pkQ)) (by decide) ?_); clear hS; intro aa ww vv hS hp
      clear hR
      obtain ⟨rfl, hR⟩ := hp
      revert aa
      refine qAg hR rfl rfl rfl (fun _ hS => Yld.eql hS rfl rfl) ?_
      refine qB (t := 112) true rfl (by exact decide_eq_true htz) ?_
      refine qA hR rfl (fun _ hS => Yld.pickT hS rfl rfl) ?_
      refine qN hR ?_
      intro aa hS
      refine wpList_nil ?_
      refine hK1135 _ _ ?_
      refine wp_seq_k ?_; intro K1140 hK1140
      refine wp_region_lit ?_
      refine sA hS hR (Yld.fieldAddr hS rfl 0 Try.underlying36 rfl rfl info5 (by decide)) (by decide) ?_; clear hS; intro aa hS
      refine sA hS hR (Yld.load1 hS rfl Try.underlying5 rfl (by first | exact Rd.blk pkQ (by rfl) | exact Rd.rec pkQ (by intro _; rfl) (by first | omega | (rw [cst_len, ho]; simp) | (rw [cst_len]; omega)) rfl | exact Rd.rec0 pkQ (by intro _; rfl) (by first | omega | (rw [cst_len, ho]; simp) | (rw [cst_len]; omega)) rfl | exact Rd.flatJ pkQ (by intro _; rfl) (by first | omega | (rw [cst_len, ho]; simp) | (rw [cst_len]; omega)) rfl | exact Rd.flat0 pkQ (by intro _; rfl) (by first | omega | (rw [cst_len, ho]; simp) | (rw [cst_len]; omega)) rfl)) (by decide) ?_; clear hS; intro aa hS
      revert aa
      refine qA hR rfl (fun _ hS => Yld.neq hS rfl rfl) ?_
      refine qB (t := 188) true rfl (by decide) ?_
      refine qM hR ?_
      refine qMg hR ?_
      refine qAg hR rfl rfl rfl (fun _ hS => Yld.not hS rfl) ?_
      refine qMg hR ?_
      intro aa hS
      refine sAg hS hR rfl rfl (Yld.loadAgg hS rfl Try.underlying36 rfl info36 (by first | exact Rds.cons (Rd.blk pkQ (by rfl)) (Rds.cons (Rd.blk pkQ (by rfl)) (Rds.cons (Rd.blk pkQ (by rfl)) (Rds.cons (Rd.blk pkQ (by rfl)) (Rds.nil)))) | exact Rds.rec pkQ (by intro _; rfl) (by first | omega | (rw [cst_len, ho]; simp) | (rw [cst_len]; omega)) | exact Rds.flat1 pkQ (by intro _; rfl) (by first | omega | (rw [cst_len, ho]; simp) | (rw [cst_len]; omega))) (by rfl)) (by decide) ?_; clear hS; intro aa hS
      refine sAg hS hR rfl rfl (Yld.fieldAddr hS rfl 0 Try.underlying36 rfl rfl info5 (by decide)) (by decide) ?_; clear hS; intro aa hS
      refine sAg hS hR rfl rfl (Yld.load1 hS rfl Try.underlying5 rfl (by first | exact Rd.blk pkQ (by rfl) | exact Rd.rec pkQ (by intro _; rfl) (by first | omega | (rw [cst_len, ho]; simp) | (rw [cst_len]; omega)) rfl | exact Rd.rec0 pkQ (by intro _; rfl) (by first | omega | (rw [cst_len, ho]; simp) | (rw [cst_len]; omega)) rfl | exact Rd.flatJ pkQ (by intro _; rfl) (by first | omega | (rw [cst_len, ho]; simp) | (rw [cst_len]; omega)) rfl | exact Rd.flat0 pkQ (by intro _; rfl) (by first | omega | (rw [cst_len, ho]; simp) | (rw [cst_len]; omega)) rfl)) (by decide) ?_; clear hS; intro aa hS
      revert aa
      refine qAg hR rfl rfl rfl (fun _ hS => Yld.build hS rfl (bld36_0 _)) ?_
      refine qAg hR rfl rfl rfl (fun _ hS => Yld.binRun hS rfl rfl (neq36 _ _ _ _ _ _ _ _ _ _)) ?_
      refine qB (t := 197) false rfl (by simp) ?_
      refine qAg hR rfl rfl rfl (fun _ hS => Yld.pickF hS rfl rfl) ?_
      refine qMg hR ?_
      refine qMg hR ?_
      intro aa hS
      refine sBg hS rfl rfl (Bcall hS rfl Try.call19 (adLen_ok hM2.f.w (hR.pk (r := deskA _ b _ _ _ _) pkQ)) (by decide) ?_); clear hS; intro aa ww vv hS hp
      clear hR
      obtain ⟨rfl, hR⟩ := hp
      rw [hET] at hS
      revert aa
      refine qMg hR ?_
      refine qAg hR rfl rfl rfl (fun _ hS => Yld.neq hS rfl rfl) ?_
      refine qB (t := 203) false rfl (by simp) ?_
      refine qAg hR rfl rfl rfl (fun _ hS => Yld.pickF hS rfl rfl) ?_
      refine qMg hR ?_
      refine qMg hR ?_
      intro aa hS
      refine sBg hS rfl rfl (Bcall hS rfl Try.call18 (adUnassured_ok (hR.pk (r := deskA _ b _ _ _ _) pkQ)) (by decide) ?_); clear hS; intro aa ww vv hS hp
      clear hR
      obtain ⟨rb, cb, rfl, hR⟩ := hp
      rw [hEo] at hS hR
      revert aa
      refine qMg hR ?_
      intro aa hS
      refine sBg hS rfl rfl (Bcall hS rfl Try.call21 (eqI_ok (q1 := rb) (q2 := ra) (by rw [cst_len]; omega) (by rw [cst_len]; omega) ((hR.pk (r := sls ra _ _ _ _ _) pkQ).pk (r := sls rb _ _ _ _ _) pkQ)) (by decide) ?_); clear hS; intro aa ww vv hS hp
      clear hR
      obtain ⟨rfl, hR⟩ := hp
      rw [decide_eq_true rfl] at hS
      revert aa
      refine qAg hR rfl rfl rfl (fun _ hS => Yld.not hS rfl) ?_
      refine qB (t := 210) false rfl (by rfl) ?_
      refine qAg hR rfl rfl rfl (fun _ hS => Yld.pickF hS rfl rfl) ?_
      refine qA hR rfl (fun _ hS => Yld.pickT hS rfl rfl) ?_
      intro aa hS
      refine wpList_nil ?_
      refine hK1140 _ _ ?_
      refine condF hS rfl ?_
      refine wp_skip ?_
      refine hK1124 _ _ ?_
      refine wp_region_lit ?_
      refine sA hS hR adQ (by decide) ?_; clear hS; intro aa hS
      revert aa
      refine qM hR ?_
      intro aa hS
      refine wpList_nil ?_
      rw [← hfE] at hR hM2
      refine ⟨k + 1, ?_, ?_, hS.le (Le.cons rfl (Le.nilapp (Le.cons rfl (Le.cons rfl (Le.cons rfl (Le.cons rfl (Le.nil _))))))), hR.sub (Ex.take pkQ (Ex.nilapp exQ))⟩
      ·
       exact ⟨by omega, hM2⟩
      ·
       omega
     ·
      intro hg hS
      refine condF hS rfl ?_
      refine wp_seq_k ?_; intro K1141 hK1141
      refine wp_region_lit ?_
      revert aa
      refine qA hR rfl (fun _ hS => Yld.eql hS rfl rfl) ?_
      refine qN hR ?_
      intro aa hS
      refine wpList_nil ?_
      refine hK1141 _ _ ?_
      refine hS.splitB (t := 114) rfl ?_ ?_ <;> clear hS
      ·
       intro hg hS
       subst hg
       obtain ⟨e2, e3, e4, hET, hEo⟩ := hF.ref (show ¬ (29 : Int) = 22 by decide)
       dsimp only at e2 e3 e4 hET hEo
       subst e2 e3 e4
       obtain ⟨h9, hfu, ho⟩ := hF.r29 rfl
       refine condT hS rfl ?_
       refine wp_region_lit ?_
       revert aa
       refine qM hR ?_
       refine qB (t := 116) true rfl (by rfl) ?_
       refine qM hR ?_
       refine qMg hR ?_
       refine qAg hR rfl rfl rfl (fun _ hS => Yld.fieldAddr hS rfl 1 Try.underlying31 rfl rfl info3 (by decide)) ?_
       intro aa hS
       refine sAg hS hR rfl rfl (Yld.load1 hS rfl Try.underlying3 rfl (by first | exact Rd.blk pkQ (by rfl) | exact Rd.rec pkQ (by intro _; rfl) (by first | omega | (rw [cst_len, ho]; simp) | (rw [cst_len]; omega)) rfl | exact Rd.rec0 pkQ (by intro _; rfl) (by first | omega | (rw [cst_len, ho]; simp) | (rw [cst_len]; omega)) rfl | exact Rd.flatJ pkQ (by intro _; rfl) (by first | omega | (rw [cst_len, ho]; simp) | (rw [cst_len]; omega)) rfl | exact Rd.flat0 pkQ (by intro _; rfl) (by first | omega | (rw [cst_len, ho]; simp) | (rw [cst_len]; omega)) rfl)) (by decide) ?_; clear hS; intro aa hS
       revert aa
       refine qAg hR rfl rfl rfl (fun _ hS => Yld.lss hS rfl rfl) ?_
       refine qB (t := 121) true rfl (by exact decide_eq_true (by omega)) ?_
       refine qA hR rfl (fun _ hS => Yld.pickT hS rfl rfl) ?_
       refine qM hR ?_
       refine qMg hR ?_
       refine qA hR rfl (fun _ hS => Yld.pickT hS rfl rfl) ?_
       refine qM hR ?_
       refine qMg hR ?_
       refine qAg hR rfl rfl rfl (fun _ hS => Yld.len hS rfl Try.underlying41) ?_
       refine qAg hR rfl rfl rfl (fun _ hS => Yld.eql hS rfl rfl) ?_
       refine qB (t := 129) true rfl (by rw [cst_len, ho]; rfl) ?_
       refine qA hR rfl (fun _ hS => Yld.pickT hS rfl rfl) ?_
       refine qN hR ?_
       intro aa hS
       refine wpList_nil ?_
       refine hK1135 _ _ ?_
       refine wp_seq_k ?_; intro K1142 hK1142
       refine wp_region_lit ?_
       refine sA hS hR (Yld.fieldAddr hS rfl 0 Try.underlying36 rfl rfl info5 (by decide)) (by decide) ?_; clear hS; intro aa hS
       refine sA hS hR (Yld.load1 hS rfl Try.underlying5 rfl (by first | exact Rd.blk pkQ (by rfl) | exact Rd.rec pkQ (by intro _; rfl) (by first | omega | (rw [cst_len, ho]; simp) | (rw [cst_len]; omega)) rfl | exact Rd.rec0 pkQ (by intro _; rfl) (by first | omega | (rw [cst_len, ho]; simp) | (rw [cst_len]; omega)) rfl | exact Rd.flatJ pkQ (by intro _; rfl) (by first | omega | (rw [cst_len, ho]; simp) | (rw [cst_len]; omega)) rfl | exact Rd.flat0 pkQ (by intro _; rfl) (by first | omega | (rw [cst_len, ho]; simp) | (rw [cst_len]; omega)) rfl)) (by decide) ?_; clear hS; intro aa hS
       revert aa
       refine qA hR rfl (fun _ hS => Yld.neq hS rfl rfl) ?_
       refine qB (t := 188) true rfl (by decide) ?_
       refine qM hR ?_
       refine qMg hR ?_
       refine qAg hR rfl rfl rfl (fun _ hS => Yld.not hS rfl) ?_
       refine qMg hR ?_
       intro aa hS
       refine sAg hS hR rfl rfl (Yld.loadAgg hS rfl Try.underlying36 rfl info36 (by first | exact Rds.cons (Rd.blk pkQ (by rfl)) (Rds.cons (Rd.blk pkQ (by rfl)) (Rds.cons (Rd.blk pkQ (by rfl)) (Rds.cons (Rd.blk pkQ (by rfl)) (Rds.nil)))) | exact Rds.rec pkQ (by intro _; rfl) (by first | omega | (rw [cst_len, ho]; simp) | (rw [cst_len]; omega)) | exact Rds.flat1 pkQ (by intro _; rfl) (by first | omega | (rw [cst_len, ho]; simp) | (rw [cst_len]; omega))) (by rfl)) (by decide) ?_; clear hS; intro aa hS
       refine sAg hS hR rfl rfl (Yld.fieldAddr hS rfl 0 Try.underlying36 rfl rfl info5 (by decide)) (by decide) ?_; clear hS; intro aa hS
       refine sAg hS hR rfl rfl (Yld.load1 hS rfl Try.underlying5 rfl (by first | exact Rd.blk pkQ (by rfl) | exact Rd.rec pkQ (by intro _; rfl) (by first | omega | (rw [cst_len, ho]; simp) | (rw [cst_len]; omega)) rfl | exact Rd.rec0 pkQ (by intro _; rfl) (by first | omega | (rw [cst_len, ho]; simp) | (rw [cst_len]; omega)) rfl | exact Rd.flatJ pkQ (by intro _; rfl) (by first | omega | (rw [cst_len, ho]; simp) | (rw [cst_len]; omega)) rfl | exact Rd.flat0 pkQ (by intro _; rfl) (by first | omega | (rw [cst_len, ho]; simp) | (rw [cst_len]; omega)) rfl)) (by decide) ?_; clear hS; intro aa hS
       revert aa
       refine qAg hR rfl rfl rfl (fun _ hS => Yld.build hS rfl (bld36_0 _)) ?_
       refine qAg hR rfl rfl rfl (fun _ hS => Yld.binRun hS rfl rfl (neq36 _ _ _ _ _ _ _ _ _ _)) ?_
       refine qB (t := 197) false rfl (by simp) ?_
       refine qAg hR rfl rfl rfl (fun _ hS => Yld.pickF hS rfl rfl) ?_
       refine qMg hR ?_
       refine qMg hR ?_
       intro aa hS
       refine sBg hS rfl rfl (Bcall hS rfl Try.call19 (adLen_ok hM2.f.w (hR.pk (r := deskA _ b _ _ _ _) pkQ)) (by decide) ?_); clear hS; intro aa ww vv hS hp
       clear hR
       obtain ⟨rfl, hR⟩ := hp
       rw [hET] at hS
       revert aa
       refine qMg hR ?_
       refine qAg hR rfl rfl rfl (fun _ hS => Yld.neq hS rfl rfl) ?_
       refine qB (t := 203) false rfl (by simp) ?_
       refine qAg hR rfl rfl rfl (fun _ hS => Yld.pickF hS rfl rfl) ?_
       refine qMg hR ?_
       refine qMg hR ?_
       intro aa hS
       refine sBg hS rfl rfl (Bcall hS rfl Try.call18 (adUnassured_ok (hR.pk (r := deskA _ b _ _ _ _) pkQ)) (by decide) ?_); clear hS; intro aa ww vv hS hp
       clear hR
       obtain ⟨rb, cb, rfl, hR⟩ := hp
       rw [hEo] at hS hR
       revert aa
       refine qMg hR ?_
       intro aa hS
       refine sBg hS rfl rfl (Bcall hS rfl Try.call21 (eqI_ok (q1 := rb) (q2 := ra) (by rw [cst_len]; omega) (by rw [cst_len]; omega) ((hR.pk (r := sls ra _ _ _ _ _) pkQ).pk (r := sls rb _ _ _ _ _) pkQ)) (by decide) ?_); clear hS; intro aa ww vv hS hp
       clear hR
       obtain ⟨rfl, hR⟩ := hp
       rw [decide_eq_true rfl] at hS
       revert aa
       refine qAg hR rfl rfl rfl (fun _ hS => Yld.not hS rfl) ?_
       refine qB (t := 210) false rfl (by rfl) ?_
       refine qAg hR rfl rfl rfl (fun _ hS => Yld.pickF hS rfl rfl) ?_
       refine qA hR rfl (fun _ hS => Yld.pickT hS rfl rfl) ?_
       intro aa hS
       refine wpList_nil ?_
       refine hK1142 _ _ ?_
       refine condF hS rfl ?_
       refine wp_skip ?_
       refine hK1124 _ _ ?_
       refine wp_region_lit ?_
       refine sA hS hR adQ (by decide) ?_; clear hS; intro aa hS
       revert aa
       refine qM hR ?_
       intro aa hS
       refine wpList_nil ?_
       rw [← hfE] at hR hM2
       refine ⟨k + 1, ?_, ?_, hS.le (Le.cons rfl (Le.nilapp (Le.cons rfl (Le.cons rfl (Le.cons rfl (Le.cons rfl (Le.nil _))))))), hR.sub (Ex.take pkQ (Ex.nilapp exQ))⟩
       ·
        exact ⟨by omega, hM2⟩
       ·
        omega
      ·
       intro hg hS
       refine condF hS rfl ?_
       refine wp_seq_k ?_; intro K1143 hK1143
       refine wp_region_lit ?_
       revert aa
       refine qA hR rfl (fun _ hS => Yld.eql hS rfl rfl) ?_
       refine qN hR ?_
       intro aa hS
       refine wpList_nil ?_
       refine hK1143 _ _ ?_
       refine hS.splitB (t := 131) rfl ?_ ?_ <;> clear hS
       ·
        intro hg hS
        subst hg
        have h9 := hF.r22 rfl
        obtain ⟨e4, h8, s, vs, ho, e2, e3⟩ := hF.drop rfl hfl
        dsimp only at e4 h8 e2 e3
        subst e4 e2 e3
        have hcl0 : 0 < (cst D.ord).length := by rw [cst_len, ho]; simp
        refine condT hS rfl ?_
        refine wp_seq_k ?_; intro K1144 hK1144
        refine drawn krQ hR Ex.refl ?_; clear hR; intro ww hR hR0
        revert aa
        refine eA 0 rfl krQ (fun _ _ _ h => h) hR0 rfl (fun _ hS => Yld.move hS rfl) ?_
        refine eA 1 rfl krQ (fun _ _ _ h => h) hR0 rfl (fun _ hS => Yld.fieldAddr hS rfl 1 Try.underlying31 rfl rfl info3 (by decide)) ?_
        intro aa hS
        refine dA 2 rfl krQ krQ krQ (fun _ _ _ h => h) hS hR0 (Yld.load1 hS rfl Try.underlying3 rfl (by first | exact Rd.blk pkQ (by rfl) | exact Rd.rec pkQ (by intro _; rfl) (by first | omega | (rw [cst_len, ho]; simp) | (rw [cst_len]; omega)) rfl | exact Rd.rec0 pkQ (by intro _; rfl) (by first | omega | (rw [cst_len, ho]; simp) | (rw [cst_len]; omega)) rfl | exact Rd.flatJ pkQ (by intro _; rfl) (by first | omega | (rw [cst_len, ho]; simp) | (rw [cst_len]; omega)) rfl | exact Rd.flat0 pkQ (by intro _; rfl) (by first | omega | (rw [cst_len, ho]; simp) | (rw [cst_len]; omega)) rfl)) (by decide) ?_; clear hS; intro aa hS
        revert aa
        refine eA 3 rfl krQ (fun _ _ _ h => h) hR0 rfl (fun _ hS => Yld.geq hS rfl rfl) ?_
        refine qB (t := 136) false rfl (by exact decide_eq_false (by omega)) ?_
        refine eA 4 rfl krQ (fun _ _ _ h => h) hR0 rfl (fun _ hS => Yld.move hS rfl) ?_
        refine eAg 5 rfl krQ (fun _ _ _ h => h) hR0 rfl rfl rfl (fun _ hS => Yld.fieldAddr hS rfl 3 Try.underlying36 rfl rfl info4 (by decide)) ?_
        intro aa hS
        refine dAg 6 rfl krQ krQ krQ (fun _ _ _ h => h) hS rfl rfl hR0 (Yld.load1 hS rfl Try.underlying4 rfl (by first | exact Rd.blk pkQ (by rfl) | exact Rd.rec pkQ (by intro _; rfl) (by first | omega | (rw [cst_len, ho]; simp) | (rw [cst_len]; omega)) rfl | exact Rd.rec0 pkQ (by intro _; rfl) (by first | omega | (rw [cst_len, ho]; simp) | (rw [cst_len]; omega)) rfl | exact Rd.flatJ pkQ (by intro _; rfl) (by first | omega | (rw [cst_len, ho]; simp) | (rw [cst_len]; omega)) rfl | exact Rd.flat0 pkQ (by intro _; rfl) (by first | omega | (rw [cst_len, ho]; simp) | (rw [cst_len]; omega)) rfl)) (by decide) ?_; clear hS; intro aa hS
        revert aa
        refine eAg 7 rfl krQ (fun _ _ _ h => h) hR0 rfl rfl rfl (fun _ hS => Yld.move hS rfl) ?_
        refine eAg 8 rfl krQ (fun _ _ _ h => h) hR0 rfl rfl rfl (fun _ hS => Yld.neqB hS rfl rfl Try.underlying4) ?_
        refine qB (t := 141) false rfl (by rfl) ?_
        refine eA 9 rfl krQ (fun _ _ _ h => h) hR0 rfl (fun _ hS => Yld.pickF hS rfl rfl) ?_
        refine eA 10 rfl krQ (fun _ _ _ h => h) hR0 rfl (fun _ hS => Yld.move hS rfl) ?_
        refine eAg 11 rfl krQ (fun _ _ _ h => h) hR0 rfl rfl rfl (fun _ hS => Yld.move hS rfl) ?_
        refine eAg 12 rfl krQ (fun _ _ _ h => h) hR0 rfl rfl rfl (fun _ hS => Yld.move hS rfl) ?_
        refine eAg 13 rfl krQ (fun _ _ _ h => h) hR0 rfl rfl rfl (fun _ hS => Yld.move hS rfl) ?_
        refine eAg 14 rfl krQ (fun _ _ _ h => h) hR0 rfl rfl rfl (fun _ hS => Yld.len hS rfl Try.underlying41) ?_
        refine eAg 15 rfl krQ (fun _ _ _ h => h) hR0 rfl rfl rfl (fun _ hS => Yld.eql hS rfl rfl) ?_
        refine qB (t := 148) false rfl (by rw [cst_len, ho]; simp; omega) ?_
        refine eAg 16 rfl krQ (fun _ _ _ h => h) hR0 rfl rfl rfl (fun _ hS => Yld.move hS rfl) ?_
        refine eAg 17 rfl krQ (fun _ _ _ h => h) hR0 rfl rfl rfl (fun _ hS => Yld.fieldAddr hS rfl 2 Try.underlying36 rfl rfl info3 (by decide)) ?_
        intro aa hS
        refine dAg 18 rfl krQ krQ krQ (fun _ _ _ h => h) hS rfl rfl hR0 (Yld.load1 hS rfl Try.underlying3 rfl (by first | exact Rd.blk pkQ (by rfl) | exact Rd.rec pkQ (by intro _; rfl) (by first | omega | (rw [cst_len, ho]; simp) | (rw [cst_len]; omega)) rfl | exact Rd.rec0 pkQ (by intro _; rfl) (by first | omega | (rw [cst_len, ho]; simp) | (rw [cst_len]; omega)) rfl | exact Rd.flatJ pkQ (by intro _; rfl) (by first | omega | (rw [cst_len, ho]; simp) | (rw [cst_len]; omega)) rfl | exact Rd.flat0 pkQ (by intro _; rfl) (by first | omega | (rw [cst_len, ho]; simp) | (rw [cst_len]; omega)) rfl)) (by decide) ?_; clear hS; intro aa hS
        revert aa
        refine eAg 19 rfl krQ (fun _ _ _ h => h) hR0 rfl rfl rfl (fun _ hS => Yld.move hS rfl) ?_
        refine eAg 20 rfl krQ (fun _ _ _ h => h) hR0 rfl rfl rfl (fun _ hS => ilQ 1 (0) Try.underlying41 info3) ?_
        refine eAg 21 rfl krQ (fun _ _ _ h => h) hR0 rfl rfl rfl (fun _ hS => Yld.load1 hS rfl Try.underlying3 rfl (Rd.rec0 (k := 0) (xs := cst D.ord) (v := .int .i64 ((s : Nat) : Int)) pkQ (by intro _; rfl) (by rw [cst_len, ho]; simp) (by simp [ho, cst, e1]))) ?_
        refine eAg 22 rfl krQ (fun _ _ _ h => h) hR0 rfl rfl rfl (fun _ hS => Yld.neq hS rfl rfl) ?_
        refine qB (t := 155) false rfl (by simp) ?_
        refine eAg 23 rfl krQ (fun _ _ _ h => h) hR0 rfl rfl rfl (fun _ hS => Yld.pickF hS rfl rfl) ?_
        refine eAg 24 rfl krQ (fun _ _ _ h => h) hR0 rfl rfl rfl (fun _ hS => Yld.move hS rfl) ?_
        refine eAg 25 rfl krQ (fun _ _ _ h => h) hR0 rfl rfl rfl (fun _ hS => Yld.fieldAddr hS rfl 1 Try.underlying36 rfl rfl info3 (by decide)) ?_
        intro aa hS
        refine dAg 26 rfl krQ krQ krQ (fun _ _ _ h => h) hS rfl rfl hR0 (Yld.load1 hS rfl Try.underlying3 rfl (by first | exact Rd.blk pkQ (by rfl) | exact Rd.rec pkQ (by intro _; rfl) (by first | omega | (rw [cst_len, ho]; simp) | (rw [cst_len]; omega)) rfl | exact Rd.rec0 pkQ (by intro _; rfl) (by first | omega | (rw [cst_len, ho]; simp) | (rw [cst_len]; omega)) rfl | exact Rd.flatJ pkQ (by intro _; rfl) (by first | omega | (rw [cst_len, ho]; simp) | (rw [cst_len]; omega)) rfl | exact Rd.flat0 pkQ (by intro _; rfl) (by first | omega | (rw [cst_len, ho]; simp) | (rw [cst_len]; omega)) rfl)) (by decide) ?_; clear hS; intro aa hS
        revert aa
        refine eAg 27 rfl krQ (fun _ _ _ h => h) hR0 rfl rfl rfl (fun _ hS => Yld.fieldAddr hS rfl 2 Try.underlying36 rfl rfl info3 (by decide)) ?_
        intro aa hS
        refine dAg 28 rfl krQ krQ krQ (fun _ _ _ h => h) hS rfl rfl hR0 (Yld.load1 hS rfl Try.underlying3 rfl (by first | exact Rd.blk pkQ (by rfl) | exact Rd.rec pkQ (by intro _; rfl) (by first | omega | (rw [cst_len, ho]; simp) | (rw [cst_len]; omega)) rfl | exact Rd.rec0 pkQ (by intro _; rfl) (by first | omega | (rw [cst_len, ho]; simp) | (rw [cst_len]; omega)) rfl | exact Rd.flatJ pkQ (by intro _; rfl) (by first | omega | (rw [cst_len, ho]; simp) | (rw [cst_len]; omega)) rfl | exact Rd.flat0 pkQ (by intro _; rfl) (by first | omega | (rw [cst_len, ho]; simp) | (rw [cst_len]; omega)) rfl)) (by decide) ?_; clear hS; intro aa hS
        revert aa
        refine eAg 29 rfl krQ (fun _ _ _ h => h) hR0 rfl rfl rfl (fun _ hS => Yld.neq hS rfl rfl) ?_
        refine qB (t := 162) false rfl (by simp) ?_
        refine eAg 30 rfl krQ (fun _ _ _ h => h) hR0 rfl rfl rfl (fun _ hS => Yld.pickF hS rfl rfl) ?_
        refine eAg 31 rfl krQ (fun _ _ _ h => h) hR0 rfl rfl rfl (fun _ hS => Yld.pickT hS rfl rfl) ?_
        refine eA 32 rfl krQ (fun _ _ _ h => h) hR0 rfl (fun _ hS => Yld.pickF hS rfl rfl) ?_
        refine eA 33 rfl krQ (fun _ _ _ h => h) hR0 rfl (fun _ hS => Yld.move hS rfl) ?_
        refine eAg 34 rfl krQ (fun _ _ _ h => h) hR0 rfl rfl rfl (fun _ hS => Yld.move hS rfl) ?_
        refine eAg 36 rfl krQ (fun _ _ _ h => h) hR0 rfl rfl rfl (fun _ hS => Yld.move hS rfl) ?_
        intro aa hS
        refine dAg 37 rfl krQ krQ krQ (fun _ _ _ h => h) hS rfl rfl hR0 adQ (by decide) ?_; clear hS; intro aa hS
        refine dOne (i := 35) krQ ?_
        refine dopg rfl hS rfl rfl (Bcall hS rfl Try.call19 (adLen_ok hM2.f.w (hR.pk (r := deskA _ b _ _ _ _) pkQ)) (by decide) ?_); clear hS; intro aa ww vv hS hp
        clear hR hR0
        obtain ⟨rfl, hR⟩ := hp
        refine dnext (hR.sub exQ) ?_; intro hR0
        revert aa
        refine eAg 38 rfl krQ (fun _ _ _ h => h) hR0 rfl rfl rfl (fun _ hS => Yld.neq hS rfl rfl) ?_
        refine qB (t := 171) true rfl (by exact decide_eq_true (by omega)) ?_
        refine eAg 39 rfl krQ (fun _ _ _ h => h) hR0 rfl rfl rfl (fun _ hS => Yld.move hS rfl) ?_
        refine eAg 40 rfl krQ (fun _ _ _ h => h) hR0 rfl rfl rfl (fun _ hS => Yld.move hS rfl) ?_
        refine eAg 41 rfl krQ (fun _ _ _ h => h) hR0 rfl rfl rfl (fun _ hS => Yld.not hS rfl) ?_
        refine eAg 42 rfl krQ (fun _ _ _ h => h) hR0 rfl rfl rfl (fun _ hS => Yld.pickT hS rfl rfl) ?_
        refine eA 43 rfl krQ (fun _ _ _ h => h) hR0 rfl (fun _ hS => Yld.pickF hS rfl rfl) ?_
        refine eA 44 rfl krQ (fun _ _ _ h => h) hR0 rfl (fun _ hS => Yld.move hS rfl) ?_
        refine eAg 45 rfl krQ (fun _ _ _ h => h) hR0 rfl rfl rfl (fun _ hS => Yld.move hS rfl) ?_
        refine eAg 47 rfl krQ (fun _ _ _ h => h) hR0 rfl rfl rfl (fun _ hS => Yld.move hS rfl) ?_
        intro aa hS
        refine dOne (i := 46) krQ ?_
        refine dopg rfl hS rfl rfl (Bcall hS rfl Try.call19 (adLen_ok hM2.f.w (hR.pk (r := deskA _ b _ _ _ _) pkQ)) (by decide) ?_); clear hS; intro aa ww vv hS hp
        clear hR hR0
        obtain ⟨rfl, hR⟩ := hp
        refine dnext (hR.sub exQ) ?_; intro hR0
        revert aa
        refine eAg 48 rfl krQ (fun _ _ _ h => h) hR0 rfl rfl rfl (fun _ hS => Yld.neq hS rfl rfl) ?_
        refine qB (t := 181) false rfl (by exact decide_eq_false (by omega)) ?_
        refine eAg 49 rfl krQ (fun _ _ _ h => h) hR0 rfl rfl rfl (fun _ hS => Yld.move hS rfl) ?_
        refine eZ 50 rfl hR0 ?_
        refine eAg 51 rfl krQ (fun _ _ _ h => h) hR0 rfl rfl rfl (fun _ hS => Yld.pickF hS rfl rfl) ?_
        refine eA 52 rfl krQ (fun _ _ _ h => h) hR0 rfl (fun _ hS => Yld.pickF hS rfl rfl) ?_
        intro aa hS
        refine wpAnyH_done krQ ?_ _; clear hR0
        refine hK1144 _ _ ?_
        refine condF hS rfl ?_
        refine wp_skip ?_
        refine hK1135 _ _ ?_
        refine wp_seq_k ?_; intro K1145 hK1145
        refine wp_region_lit ?_
        refine sA hS hR (Yld.fieldAddr hS rfl 0 Try.underlying36 rfl rfl info5 (by decide)) (by decide) ?_; clear hS; intro aa hS
        refine sA hS hR (Yld.load1 hS rfl Try.underlying5 rfl (by first | exact Rd.blk pkQ (by rfl) | exact Rd.rec pkQ (by intro _; rfl) (by first | omega | (rw [cst_len, ho]; simp) | (rw [cst_len]; omega)) rfl | exact Rd.rec0 pkQ (by intro _; rfl) (by first | omega | (rw [cst_len, ho]; simp) | (rw [cst_len]; omega)) rfl | exact Rd.flatJ pkQ (by intro _; rfl) (by first | omega | (rw [cst_len, ho]; simp) | (rw [cst_len]; omega)) rfl | exact Rd.flat0 pkQ (by intro _; rfl) (by first | omega | (rw [cst_len, ho]; simp) | (rw [cst_len]; omega)) rfl)) (by decide) ?_; clear hS; intro aa hS
        revert aa
        refine qA hR rfl (fun _ hS => Yld.neq hS rfl rfl) ?_
        refine qB (t := 188) false rfl (by decide) ?_
        refine qM hR ?_
        refine qZ ?_
        refine qZ ?_
        refine qZ ?_
        refine qU ?_
        refine qU ?_
        refine qU ?_
        refine qU ?_
        refine qU ?_
        refine qZ ?_
        refine qZ ?_
        refine qU ?_
        refine qU ?_
        refine qU ?_
        refine qU ?_
        refine qZ ?_
        refine qZ ?_
        refine qU ?_
        refine qU ?_
        refine qU ?_
        refine qU ?_
        refine qU ?_
        refine qZ ?_
        refine qA hR rfl (fun _ hS => Yld.pickF hS rfl rfl) ?_
        intro aa hS
        refine wpList_nil ?_
        refine hK1145 _ _ ?_
        refine condF hS rfl ?_
        refine wp_skip ?_
        refine hK1124 _ _ ?_
        refine wp_region_lit ?_
        refine sA hS hR adQ (by decide) ?_; clear hS; intro aa hS
        revert aa
        refine qM hR ?_
        intro aa hS
        refine wpList_nil ?_
        rw [← hfE] at hR hM2
        refine ⟨k + 1, ?_, ?_, hS.le (Le.cons rfl (Le.nilapp (Le.cons rfl (Le.cons rfl (Le.cons rfl (Le.cons rfl (Le.nil _))))))), hR.sub (Ex.take pkQ (Ex.nilapp exQ))⟩
        ·
         exact ⟨by omega, hM2⟩
        ·
         omega
       ·
        intro hg hS
        have h9 := hF.any; dsimp only at h9; omega
   ·
    intro hg hS
    have hnf : ¬ D.T.O.length = S := by omega
    revert aa
    refine qN hR ?_
    intro aa hS
    refine wpList_nil ?_
    refine hK1133 _ _ ?_
    refine wp_seq_k ?_; intro K1146 hK1146
    refine wp_region_lit ?_
    refine sA hS hR (Yld.fieldAddr hS rfl 0 Try.underlying36 rfl rfl info5 (by decide)) (by decide) ?_; clear hS; intro aa hS
    refine sA hS hR (Yld.load1 hS rfl Try.underlying5 rfl (by first | exact Rd.blk pkQ (by rfl) | exact Rd.rec pkQ (by intro _; rfl) (by first | omega | (rw [cst_len, ho]; simp) | (rw [cst_len]; omega)) rfl | exact Rd.rec0 pkQ (by intro _; rfl) (by first | omega | (rw [cst_len, ho]; simp) | (rw [cst_len]; omega)) rfl | exact Rd.flatJ pkQ (by intro _; rfl) (by first | omega | (rw [cst_len, ho]; simp) | (rw [cst_len]; omega)) rfl | exact Rd.flat0 pkQ (by intro _; rfl) (by first | omega | (rw [cst_len, ho]; simp) | (rw [cst_len]; omega)) rfl)) (by decide) ?_; clear hS; intro aa hS
    revert aa
    refine qA hR rfl (fun _ hS => Yld.neq hS rfl rfl) ?_
    refine qN hR ?_
    intro aa hS
    refine wpList_nil ?_
    refine hK1146 _ _ ?_
    refine wp_seq_k ?_; intro K1147 hK1147
    refine wp_seq_k ?_; intro K1148 hK1148
    refine wp_region_lit ?_
    refine sA hS hR (Yld.fieldAddr hS rfl 0 Try.underlying36 rfl rfl info5 (by decide)) (by decide) ?_; clear hS; intro aa hS
    refine sA hS hR (Yld.load1 hS rfl Try.underlying5 rfl (by first | exact Rd.blk pkQ (by rfl) | exact Rd.rec pkQ (by intro _; rfl) (by first | omega | (rw [cst_len, ho]; simp) | (rw [cst_len]; omega)) rfl | exact Rd.rec0 pkQ (by intro _; rfl) (by first | omega | (rw [cst_len, ho]; simp) | (rw [cst_len]; omega)) rfl | exact Rd.flatJ pkQ (by intro _; rfl) (by first | omega | (rw [cst_len, ho]; simp) | (rw [cst_len]; omega)) rfl | exact Rd.flat0 pkQ (by intro _; rfl) (by first | omega | (rw [cst_len, ho]; simp) | (rw [cst_len]; omega)) rfl)) (by decide) ?_; clear hS; intro aa hS
    refine wpList_nil ?_
    refine hK1148 _ _ ?_
    refine wp_block ?_
    refine wp_seq_k ?_; intro K1149 hK1149
    refine wp_region_lit ?_
    revert aa
    refine qA hR rfl (fun _ hS => Yld.eql hS rfl rfl) ?_
    refine qN hR ?_
    intro aa hS
    refine wpList_nil ?_
    refine hK1149 _ _ ?_
    refine hS.splitB (t := 90) rfl ?_ ?_ <;> clear hS
    ·
     intro hg hS
     subst hg
     obtain ⟨e2, e3, e4, hET, hEo⟩ := hF.ref (show ¬ (27 : Int) = 22 by decide)
     dsimp only at e2 e3 e4 hET hEo
     subst e2 e3 e4
     have h9 := hF.r27 rfl
     refine condT hS rfl ?_
     refine wp_region_lit ?_
     revert aa
     refine qM hR ?_
     refine qB (t := 92) true rfl (by rfl) ?_
     refine qM hR ?_
     refine qMg hR ?_
     refine qAg hR rfl rfl rfl (fun _ hS => Yld.fieldAddr hS rfl 1 Try.underlying31 rfl rfl info3 (by decide)) ?_
     intro aa hS
     refine sAg hS hR rfl rfl (Yld.load1 hS rfl Try.underlying3 rfl (by first | exact Rd.blk pkQ (by rfl) | exact Rd.rec pkQ (by intro _; rfl) (by first | omega | (rw [cst_len, ho]; simp) | (rw [cst_len]; omega)) rfl | exact Rd.rec0 pkQ (by intro _; rfl) (by first | omega | (rw [cst_len, ho]; simp) | (rw [cst_len]; omega)) rfl | exact Rd.flatJ pkQ (by intro _; rfl) (by first | omega | (rw [cst_len, ho]; simp) | (rw [cst_len]; omega)) rfl | exact Rd.flat0 pkQ (by intro _; rfl) (by first | omega | (rw [cst_len, ho]; simp) | (rw [cst_len]; omega)) rfl)) (by decide) ?_; clear hS; intro aa hS
     revert aa
     refine qAg hR rfl rfl rfl (fun _ hS => Yld.eql hS rfl rfl) ?_
     refine qB (t := 97) true rfl (by exact decide_eq_true (by omega)) ?_
     refine qA hR rfl (fun _ hS => Yld.pickT hS rfl rfl) ?_
     refine qN hR ?_
     intro aa hS
     refine wpList_nil ?_
     refine hK1147 _ _ ?_
     refine wp_seq_k ?_; intro K1150 hK1150
     refine wp_region_lit ?_
     refine sA hS hR (Yld.fieldAddr hS rfl 0 Try.underlying36 rfl rfl info5 (by decide)) (by decide) ?_; clear hS; intro aa hS
     refine sA hS hR (Yld.load1 hS rfl Try.underlying5 rfl (by first | exact Rd.blk pkQ (by rfl) | exact Rd.rec pkQ (by intro _; rfl) (by first | omega | (rw [cst_len, ho]; simp) | (rw [cst_len]; omega)) rfl | exact Rd.rec0 pkQ (by intro _; rfl) (by first | omega | (rw [cst_len, ho]; simp) | (rw [cst_len]; omega)) rfl | exact Rd.flatJ pkQ (by intro _; rfl) (by first | omega | (rw [cst_len, ho]; simp) | (rw [cst_len]; omega)) rfl | exact Rd.flat0 pkQ (by intro _; rfl) (by first | omega | (rw [cst_len, ho]; simp) | (rw [cst_len]; omega)) rfl)) (by decide) ?_; clear hS; intro aa hS
     revert aa
     refine qA hR rfl (fun _ hS => Yld.neq hS rfl rfl) ?_
     refine qB (t := 188) true rfl (by decide) ?_
     refine qM hR ?_
     refine qMg hR ?_
     refine qAg hR rfl rfl rfl (fun _ hS => Yld.not hS rfl) ?_
     refine qMg hR ?_
     intro aa hS
     refine sAg hS hR rfl rfl (Yld.loadAgg hS rfl Try.underlying36 rfl info36 (by first | exact Rds.cons (Rd.blk pkQ (by rfl)) (Rds.cons (Rd.blk pkQ (by rfl)) (Rds.cons (Rd.blk pkQ (by rfl)) (Rds.cons (Rd.blk pkQ (by rfl)) (Rds.nil)))) | exact Rds.rec pkQ (by intro _; rfl) (by first | omega | (rw [cst_len, ho]; simp) | (rw [cst_len]; omega)) | exact Rds.flat1 pkQ (by intro _; rfl) (by first | omega | (rw [cst_len, ho]; simp) | (rw [cst_len]; omega))) (by rfl)) (by decide) ?_; clear hS; intro aa hS
     refine sAg hS hR rfl rfl (Yld.fieldAddr hS rfl 0 Try.underlying36 rfl rfl info5 (by decide)) (by decide) ?_; clear hS; intro aa hS
     refine sAg hS hR rfl rfl (Yld.load1 hS rfl Try.underlying5 rfl (by first | exact Rd.blk pkQ (by rfl) | exact Rd.rec pkQ (by intro _; rfl) (by first | omega | (rw [cst_len, ho]; simp) | (rw [cst_len]; omega)) rfl | exact Rd.rec0 pkQ (by intro _; rfl) (by first | omega | (rw [cst_len, ho]; simp) | (rw [cst_len]; omega)) rfl | exact Rd.flatJ pkQ (by intro _; rfl) (by first | omega | (rw [cst_len, ho]; simp) | (rw [cst_len]; omega)) rfl | exact Rd.flat0 pkQ (by intro _; rfl) (by first | omega | (rw [cst_len, ho]; simp) | (rw [cst_len]; omega)) rfl)) (by decide) ?_; clear hS; intro aa hS
     revert aa
     refine qAg hR rfl rfl rfl (fun _ hS => Yld.build hS rfl (bld36_0 _)) ?_
     refine qAg hR rfl rfl rfl (fun _ hS => Yld.binRun hS rfl rfl (neq36 _ _ _ _ _ _ _ _ _ _)) ?_
     refine qB (t := 197) false rfl (by simp) ?_
     refine qAg hR rfl rfl rfl (fun _ hS => Yld.pickF hS rfl rfl) ?_
     refine qMg hR ?_
     refine qMg hR ?_
     intro aa hS
     refine sBg hS rfl rfl (Bcall hS rfl Try.call19 (adLen_ok hM2.f.w (hR.pk (r := deskA _ b _ _ _ _) pkQ)) (by decide) ?_); clear hS; intro aa ww vv hS hp
     clear hR
     obtain ⟨rfl, hR⟩ := hp
     rw [hET] at hS
     revert aa
     refine qMg hR ?_
     refine qAg hR rfl rfl rfl (fun _ hS => Yld.neq hS rfl rfl) ?_
     refine qB (t := 203) false rfl (by simp) ?_
     refine qAg hR rfl rfl rfl (fun _ hS => Yld.pickF hS rfl rfl) ?_
     refine qMg hR ?_
     refine qMg hR ?_
     intro aa hS
     refine sBg hS rfl rfl (Bcall hS rfl Try.call18 (adUnassured_ok (hR.pk (r := deskA _ b _ _ _ _) pkQ)) (by decide) ?_); clear hS; intro aa ww vv hS hp
     clear hR
     obtain ⟨rb, cb, rfl, hR⟩ := hp
     rw [hEo] at hS hR
     revert aa
     refine qMg hR ?_
     intro aa hS
     refine sBg hS rfl rfl (Bcall hS rfl Try.call21 (eqI_ok (q1 := rb) (q2 := ra) (by rw [cst_len]; omega) (by rw [cst_len]; omega) ((hR.pk (r := sls ra _ _ _ _ _) pkQ).pk (r := sls rb _ _ _ _ _) pkQ)) (by decide) ?_); clear hS; intro aa ww vv hS hp
     clear hR
     obtain ⟨rfl, hR⟩ := hp
     rw [decide_eq_true rfl] at hS
     revert aa
     refine qAg hR rfl rfl rfl (fun _ hS => Yld.not hS rfl) ?_
     refine qB (t := 210) false rfl (by rfl) ?_
     refine qAg hR rfl rfl rfl (fun _ hS => Yld.pickF hS rfl rfl) ?_
     refine qA hR rfl (fun _ hS => Yld.pickT hS rfl rfl) ?_
     intro aa hS
     refine wpList_nil ?_
     refine hK1150 _ _ ?_
     refine condF hS rfl ?_
     refine wp_skip ?_
     refine hK1124 _ _ ?_
     refine wp_region_lit ?_
     refine sA hS hR adQ (by decide) ?_; clear hS; intro aa hS
     revert aa
     refine qM hR ?_
     intro aa hS
     refine wpList_nil ?_
     rw [← hfE] at hR hM2
     refine ⟨k + 1, ?_, ?_, hS.le (Le.cons rfl (Le.nilapp (Le.cons rfl (Le.cons rfl (Le.cons rfl (Le.cons rfl (Le.nil _))))))), hR.sub (Ex.take pkQ (Ex.nilapp exQ))⟩
     ·
      exact ⟨by omega, hM2⟩
     ·
      omega
    ·
     intro hg hS
     refine condF hS rfl ?_
     refine wp_seq_k ?_; intro K1151 hK1151
     refine wp_region_lit ?_
     revert aa
     refine qA hR rfl (fun _ hS => Yld.eql hS rfl rfl) ?_
     refine qN hR ?_
     intro aa hS
     refine wpList_nil ?_
     refine hK1151 _ _ ?_
     refine hS.splitB (t := 99) rfl ?_ ?_ <;> clear hS
     ·
      intro hg hS
      subst hg
      obtain ⟨e2, e3, e4, hET, hEo⟩ := hF.ref (show ¬ (28 : Int) = 22 by decide)
      dsimp only at e2 e3 e4 hET hEo
      subst e2 e3 e4
      obtain ⟨h9, htz⟩ := hF.r28 rfl
      refine condT hS rfl ?_
      refine wp_region_lit ?_
      revert aa
      refine qM hR ?_
      refine qB (t := 101) true rfl (by rfl) ?_
      refine qM hR ?_
      refine qMg hR ?_
      refine qAg hR rfl rfl rfl (fun _ hS => Yld.fieldAddr hS rfl 1 Try.underlying31 rfl rfl info3 (by decide)) ?_
      intro aa hS
      refine sAg hS hR rfl rfl (Yld.load1 hS rfl Try.underlying3 rfl (by first | exact Rd.blk pkQ (by rfl) | exact Rd.rec pkQ (by intro _; rfl) (by first | omega | (rw [cst_len, ho]; simp) | (rw [cst_len]; omega)) rfl | exact Rd.rec0 pkQ (by intro _; rfl) (by first | omega | (rw [cst_len, ho]; simp) | (rw [cst_len]; omega)) rfl | exact Rd.flatJ pkQ (by intro _; rfl) (by first | omega | (rw [cst_len, ho]; simp) | (rw [cst_len]; omega)) rfl | exact Rd.flat0 pkQ (by intro _; rfl) (by first | omega | (rw [cst_len, ho]; simp) | (rw [cst_len]; omega)) rfl)) (by decide) ?_; clear hS; intro aa hS
      revert aa
      refine qAg hR rfl rfl rfl (fun _ hS => Yld.lss hS rfl rfl) ?_
      refine qB (t := 106) true rfl (by exact decide_eq_true (by omega)) ?_
      refine qA hR rfl (fun _ hS => Yld.pickT hS rfl rfl) ?_
      refine qM hR ?_
      refine qMg hR ?_
      refine qMg hR ?_
      intro aa hS
      refine sBg hS rfl rfl (Bcall hS rfl Try.call10 (adTokens_ok (a := s1 % 6) hM2.f (by omega) (hR.pk (r := deskA _ b _ _ _ _) pkQ)) (by decide) ?_); clear hS; intro aa ww vv hS hp
      clear hR
      obtain ⟨rfl, hR⟩ := hp
      revert aa
      refine qAg hR rfl rfl rfl (fun _ hS => Yld.eql hS rfl rfl) ?_
      refine qB (t := 112) true rfl (by exact decide_eq_true htz) ?_
      refine qA hR rfl (fun _ hS => Yld.pickT hS rfl rfl) ?_
      refine qN hR ?_
      intro aa hS
      refine wpList_nil ?_
      refine hK1147 _ _ ?_
      refine wp_seq_k ?_; intro K1152 hK1152
      refine wp_region_lit ?_
      refine sA hS hR (Yld.fieldAddr hS rfl 0 Try.underlying36 rfl rfl info5 (by decide)) (by decide) ?_; clear hS; intro aa hS
      refine sA hS hR (Yld.load1 hS rfl Try.underlying5 rfl (by first | exact Rd.blk pkQ (by rfl) | exact Rd.rec pkQ (by intro _; rfl) (by first | omega | (rw [cst_len, ho]; simp) | (rw [cst_len]; omega)) rfl | exact Rd.rec0 pkQ (by intro _; rfl) (by first | omega | (rw [cst_len, ho]; simp) | (rw [cst_len]; omega)) rfl | exact Rd.flatJ pkQ (by intro _; rfl) (by first | omega | (rw [cst_len, ho]; simp) | (rw [cst_len]; omega)) rfl | exact Rd.flat0 pkQ (by intro _; rfl) (by first | omega | (rw [cst_len, ho]; simp) | (rw [cst_len]; omega)) rfl)) (by decide) ?_; clear hS; intro aa hS
      revert aa
      refine qA hR rfl (fun _ hS => Yld.neq hS rfl rfl) ?_
      refine qB (t := 188) true rfl (by decide) ?_
      refine qM hR ?_
      refine qMg hR ?_
      refine qAg hR rfl rfl rfl (fun _ hS => Yld.not hS rfl) ?_
      refine qMg hR ?_
      intro aa hS
      refine sAg hS hR rfl rfl (Yld.loadAgg hS rfl Try.underlying36 rfl info36 (by first | exact Rds.cons (Rd.blk pkQ (by rfl)) (Rds.cons (Rd.blk pkQ (by rfl)) (Rds.cons (Rd.blk pkQ (by rfl)) (Rds.cons (Rd.blk pkQ (by rfl)) (Rds.nil)))) | exact Rds.rec pkQ (by intro _; rfl) (by first | omega | (rw [cst_len, ho]; simp) | (rw [cst_len]; omega)) | exact Rds.flat1 pkQ (by intro _; rfl) (by first | omega | (rw [cst_len, ho]; simp) | (rw [cst_len]; omega))) (by rfl)) (by decide) ?_; clear hS; intro aa hS
      refine sAg hS hR rfl rfl (Yld.fieldAddr hS rfl 0 Try.underlying36 rfl rfl info5 (by decide)) (by decide) ?_; clear hS; intro aa hS
      refine sAg hS hR rfl rfl (Yld.load1 hS rfl Try.underlying5 rfl (by first | exact Rd.blk pkQ (by rfl) | exact Rd.rec pkQ (by intro _; rfl) (by first | omega | (rw [cst_len, ho]; simp) | (rw [cst_len]; omega)) rfl | exact Rd.rec0 pkQ (by intro _; rfl) (by first | omega | (rw [cst_len, ho]; simp) | (rw [cst_len]; omega)) rfl | exact Rd.flatJ pkQ (by intro _; rfl) (by first | omega | (rw [cst_len, ho]; simp) | (rw [cst_len]; omega)) rfl | exact Rd.flat0 pkQ (by intro _; rfl) (by first | omega | (rw [cst_len, ho]; simp) | (rw [cst_len]; omega)) rfl)) (by decide) ?_; clear hS; intro aa hS
      revert aa
      refine qAg hR rfl rfl rfl (fun _ hS => Yld.build hS rfl (bld36_0 _)) ?_
      refine qAg hR rfl rfl rfl (fun _ hS => Yld.binRun hS rfl rfl (neq36 _ _ _ _ _ _ _ _ _ _)) ?_
      refine qB (t := 197) false rfl (by simp) ?_
      refine qAg hR rfl rfl rfl (fun _ hS => Yld.pickF hS rfl rfl) ?_
      refine qMg hR ?_
      refine qMg hR ?_
      intro aa hS
      refine sBg hS rfl rfl (Bcall hS rfl Try.call19 (adLen_ok hM2.f.w (hR.pk (r := deskA _ b _ _ _ _) pkQ)) (by decide) ?_); clear hS; intro aa ww vv hS hp
      clear hR
      obtain ⟨rfl, hR⟩ := hp
      rw [hET] at hS
      revert aa
      refine qMg hR ?_
      refine qAg hR rfl rfl rfl (fun _ hS => Yld.neq hS rfl rfl) ?_
      refine qB (t := 203) false rfl (by simp) ?_
      refine qAg hR rfl rfl rfl (fun _ hS => Yld.pickF hS rfl rfl) ?_
      refine qMg hR ?_
      refine qMg hR ?_
      intro aa hS
      refine sBg hS rfl rfl (Bcall hS rfl Try.call18 (adUnassured_ok (hR.pk (r := deskA _ b _ _ _ _) pkQ)) (by decide) ?_); clear hS; intro aa ww vv hS hp
      clear hR
      obtain ⟨rb, cb, rfl, hR⟩ := hp
      rw [hEo] at hS hR
      revert aa
      refine qMg hR ?_
      intro aa hS
      refine sBg hS rfl rfl (Bcall hS rfl Try.call21 (eqI_ok (q1 := rb) (q2 := ra) (by rw [cst_len]; omega) (by rw [cst_len]; omega) ((hR.pk (r := sls ra _ _ _ _ _) pkQ).pk (r := sls rb _ _ _ _ _) pkQ)) (by decide) ?_); clear hS; intro aa ww vv hS hp
      clear hR
      obtain ⟨rfl, hR⟩ := hp
      rw [decide_eq_true rfl] at hS
      revert aa
      refine qAg hR rfl rfl rfl (fun _ hS => Yld.not hS rfl) ?_
      refine qB (t := 210) false rfl (by rfl) ?_
      refine qAg hR rfl rfl rfl (fun _ hS => Yld.pickF hS rfl rfl) ?_
      refine qA hR rfl (fun _ hS => Yld.pickT hS rfl rfl) ?_
      intro aa hS
      refine wpList_nil ?_
      refine hK1152 _ _ ?_
      refine condF hS rfl ?_
      refine wp_skip ?_
      refine hK1124 _ _ ?_
      refine wp_region_lit ?_
      refine sA hS hR adQ (by decide) ?_; clear hS; intro aa hS
      revert aa
      refine qM hR ?_
      intro aa hS
      refine wpList_nil ?_
      rw [← hfE] at hR hM2
      refine ⟨k + 1, ?_, ?_, hS.le (Le.cons rfl (Le.nilapp (Le.cons rfl (Le.cons rfl (Le.cons rfl (Le.cons rfl (Le.nil _))))))), hR.sub (Ex.take pkQ (Ex.nilapp exQ))⟩
      ·
       exact ⟨by omega, hM2⟩
      ·
       omega
     ·
      intro hg hS
      refine condF hS rfl ?_
      refine wp_seq_k ?_; intro K1153 hK1153
      refine wp_region_lit ?_
      revert aa
      refine qA hR rfl (fun _ hS => Yld.eql hS rfl rfl) ?_
      refine qN hR ?_
      intro aa hS
      refine wpList_nil ?_
      refine hK1153 _ _ ?_
      refine hS.splitB (t := 114) rfl ?_ ?_ <;> clear hS
      ·
       intro hg hS
       subst hg; exact absurd (hF.r29 rfl).2.1 hnf
      ·
       intro hg hS
       refine condF hS rfl ?_
       refine wp_seq_k ?_; intro K1154 hK1154
       refine wp_region_lit ?_
       revert aa
       refine qA hR rfl (fun _ hS => Yld.eql hS rfl rfl) ?_
       refine qN hR ?_
       intro aa hS
       refine wpList_nil ?_
       refine hK1154 _ _ ?_
       refine hS.splitB (t := 131) rfl ?_ ?_ <;> clear hS
       ·
        intro hg hS
        subst hg
        have h9 := hF.r22 rfl
        obtain ⟨e4, h8⟩ := hF.new rfl hnf
        dsimp only at e4 h8
        subst e4
        refine condT hS rfl ?_
        refine wp_seq_k ?_; intro K1155 hK1155
        refine drawn krQ hR Ex.refl ?_; clear hR; intro ww hR hR0
        revert aa
        refine eA 0 rfl krQ (fun _ _ _ h => h) hR0 rfl (fun _ hS => Yld.move hS rfl) ?_
        refine eA 1 rfl krQ (fun _ _ _ h => h) hR0 rfl (fun _ hS => Yld.fieldAddr hS rfl 1 Try.underlying31 rfl rfl info3 (by decide)) ?_
        intro aa hS
        refine dA 2 rfl krQ krQ krQ (fun _ _ _ h => h) hS hR0 (Yld.load1 hS rfl Try.underlying3 rfl (by first | exact Rd.blk pkQ (by rfl) | exact Rd.rec pkQ (by intro _; rfl) (by first | omega | (rw [cst_len, ho]; simp) | (rw [cst_len]; omega)) rfl | exact Rd.rec0 pkQ (by intro _; rfl) (by first | omega | (rw [cst_len, ho]; simp) | (rw [cst_len]; omega)) rfl | exact Rd.flatJ pkQ (by intro _; rfl) (by first | omega | (rw [cst_len, ho]; simp) | (rw [cst_len]; omega)) rfl | exact Rd.flat0 pkQ (by intro _; rfl) (by first | omega | (rw [cst_len, ho]; simp) | (rw [cst_len]; omega)) rfl)) (by decide) ?_; clear hS; intro aa hS
        revert aa
        refine eA 3 rfl krQ (fun _ _ _ h => h) hR0 rfl (fun _ hS => Yld.geq hS rfl rfl) ?_
        refine qB (t := 136) false rfl (by exact decide_eq_false (by omega)) ?_
        refine eA 4 rfl krQ (fun _ _ _ h => h) hR0 rfl (fun _ hS => Yld.move hS rfl) ?_
        refine eAg 5 rfl krQ (fun _ _ _ h => h) hR0 rfl rfl rfl (fun _ hS => Yld.fieldAddr hS rfl 3 Try.underlying36 rfl rfl info4 (by decide)) ?_
        intro aa hS
        refine dAg 6 rfl krQ krQ krQ (fun _ _ _ h => h) hS rfl rfl hR0 (Yld.load1 hS rfl Try.underlying4 rfl (by first | exact Rd.blk pkQ (by rfl) | exact Rd.rec pkQ (by intro _; rfl) (by first | omega | (rw [cst_len, ho]; simp) | (rw [cst_len]; omega)) rfl | exact Rd.rec0 pkQ (by intro _; rfl) (by first | omega | (rw [cst_len, ho]; simp) | (rw [cst_len]; omega)) rfl | exact Rd.flatJ pkQ (by intro _; rfl) (by first | omega | (rw [cst_len, ho]; simp) | (rw [cst_len]; omega)) rfl | exact Rd.flat0 pkQ (by intro _; rfl) (by first | omega | (rw [cst_len, ho]; simp) | (rw [cst_len]; omega)) rfl)) (by decide) ?_; clear hS; intro aa hS
        revert aa
        refine eAg 7 rfl krQ (fun _ _ _ h => h) hR0 rfl rfl rfl (fun _ hS => Yld.move hS rfl) ?_
        refine eAg 8 rfl krQ (fun _ _ _ h => h) hR0 rfl rfl rfl (fun _ hS => Yld.neqB hS rfl rfl Try.underlying4) ?_
        refine qB (t := 141) false rfl (by rfl) ?_
        refine eA 9 rfl krQ (fun _ _ _ h => h) hR0 rfl (fun _ hS => Yld.pickF hS rfl rfl) ?_
        refine eA 10 rfl krQ (fun _ _ _ h => h) hR0 rfl (fun _ hS => Yld.move hS rfl) ?_
        refine eAg 11 rfl krQ (fun _ _ _ h => h) hR0 rfl rfl rfl (fun _ hS => Yld.move hS rfl) ?_
        refine eAg 12 rfl krQ (fun _ _ _ h => h) hR0 rfl rfl rfl (fun _ hS => Yld.move hS rfl) ?_
        refine eZ 13 rfl hR0 ?_
        refine eZ 14 rfl hR0 ?_
        refine eZ 15 rfl hR0 ?_
        refine eZ 16 rfl hR0 ?_
        refine eU 17 rfl hR0 ?_
        refine eU 18 rfl hR0 ?_
        refine eU 19 rfl hR0 ?_
        refine eU 20 rfl hR0 ?_
        refine eU 21 rfl hR0 ?_
        refine eU 22 rfl hR0 ?_
        refine eZ 23 rfl hR0 ?_
        refine eZ 24 rfl hR0 ?_
        refine eU 25 rfl hR0 ?_
        refine eU 26 rfl hR0 ?_
        refine eU 27 rfl hR0 ?_
        refine eU 28 rfl hR0 ?_
        refine eU 29 rfl hR0 ?_
        refine eZ 30 rfl hR0 ?_
        refine eAg 31 rfl krQ (fun _ _ _ h => h) hR0 rfl rfl rfl (fun _ hS => Yld.pickF hS rfl rfl) ?_
        refine eA 32 rfl krQ (fun _ _ _ h => h) hR0 rfl (fun _ hS => Yld.pickF hS rfl rfl) ?_
        refine eA 33 rfl krQ (fun _ _ _ h => h) hR0 rfl (fun _ hS => Yld.move hS rfl) ?_
        refine eAg 34 rfl krQ (fun _ _ _ h => h) hR0 rfl rfl rfl (fun _ hS => Yld.move hS rfl) ?_
        refine eAg 36 rfl krQ (fun _ _ _ h => h) hR0 rfl rfl rfl (fun _ hS => Yld.move hS rfl) ?_
        intro aa hS
        refine dAg 37 rfl krQ krQ krQ (fun _ _ _ h => h) hS rfl rfl hR0 adQ (by decide) ?_; clear hS; intro aa hS
        refine dOne (i := 35) krQ ?_
        refine dopg rfl hS rfl rfl (Bcall hS rfl Try.call19 (adLen_ok hM2.f.w (hR.pk (r := deskA _ b _ _ _ _) pkQ)) (by decide) ?_); clear hS; intro aa ww vv hS hp
        clear hR hR0
        obtain ⟨rfl, hR⟩ := hp
        refine dnext (hR.sub exQ) ?_; intro hR0
        revert aa
        refine eAg 38 rfl krQ (fun _ _ _ h => h) hR0 rfl rfl rfl (fun _ hS => Yld.neq hS rfl rfl) ?_
        refine qB (t := 171) false rfl (by exact decide_eq_false (by omega)) ?_
        refine eAg 39 rfl krQ (fun _ _ _ h => h) hR0 rfl rfl rfl (fun _ hS => Yld.move hS rfl) ?_
        refine eZ 40 rfl hR0 ?_
        refine eZ 41 rfl hR0 ?_
        refine eAg 42 rfl krQ (fun _ _ _ h => h) hR0 rfl rfl rfl (fun _ hS => Yld.pickF hS rfl rfl) ?_
        refine eA 43 rfl krQ (fun _ _ _ h => h) hR0 rfl (fun _ hS => Yld.pickF hS rfl rfl) ?_
        refine eA 44 rfl krQ (fun _ _ _ h => h) hR0 rfl (fun _ hS => Yld.move hS rfl) ?_
        refine eAg 45 rfl krQ (fun _ _ _ h => h) hR0 rfl rfl rfl (fun _ hS => Yld.move hS rfl) ?_
        refine eAg 47 rfl krQ (fun _ _ _ h => h) hR0 rfl rfl rfl (fun _ hS => Yld.move hS rfl) ?_
        intro aa hS
        refine dOne (i := 46) krQ ?_
        refine dopg rfl hS rfl rfl (Bcall hS rfl Try.call19 (adLen_ok hM2.f.w (hR.pk (r := deskA _ b _ _ _ _) pkQ)) (by decide) ?_); clear hS; intro aa ww vv hS hp
        clear hR hR0
        obtain ⟨rfl, hR⟩ := hp
        refine dnext (hR.sub exQ) ?_; intro hR0
        revert aa
        refine eAg 48 rfl krQ (fun _ _ _ h => h) hR0 rfl rfl rfl (fun _ hS => Yld.neq hS rfl rfl) ?_
        refine qB (t := 181) true rfl (by exact decide_eq_true (by omega)) ?_
        refine eAg 49 rfl krQ (fun _ _ _ h => h) hR0 rfl rfl rfl (fun _ hS => Yld.move hS rfl) ?_
        refine eAg 50 rfl krQ (fun _ _ _ h => h) hR0 rfl rfl rfl (fun _ hS => Yld.move hS rfl) ?_
        refine eAg 51 rfl krQ (fun _ _ _ h => h) hR0 rfl rfl rfl (fun _ hS => Yld.pickT hS rfl rfl) ?_
        refine eA 52 rfl krQ (fun _ _ _ h => h) hR0 rfl (fun _ hS => Yld.pickF hS rfl rfl) ?_
        intro aa hS
        refine wpAnyH_done krQ ?_ _; clear hR0
        refine hK1155 _ _ ?_
        refine condF hS rfl ?_
        refine wp_skip ?_
        refine hK1147 _ _ ?_
        refine wp_seq_k ?_; intro K1156 hK1156
        refine wp_region_lit ?_
        refine sA hS hR (Yld.fieldAddr hS rfl 0 Try.underlying36 rfl rfl info5 (by decide)) (by decide) ?_; clear hS; intro aa hS
        refine sA hS hR (Yld.load1 hS rfl Try.underlying5 rfl (by first | exact Rd.blk pkQ (by rfl) | exact Rd.rec pkQ (by intro _; rfl) (by first | omega | (rw [cst_len, ho]; simp) | (rw [cst_len]; omega)) rfl | exact Rd.rec0 pkQ (by intro _; rfl) (by first | omega | (rw [cst_len, ho]; simp) | (rw [cst_len]; omega)) rfl | exact Rd.flatJ pkQ (by intro _; rfl) (by first | omega | (rw [cst_len, ho]; simp) | (rw [cst_len]; omega)) rfl | exact Rd.flat0 pkQ (by intro _; rfl) (by first | omega | (rw [cst_len, ho]; simp) | (rw [cst_len]; omega)) rfl)) (by decide) ?_; clear hS; intro aa hS
        revert aa
        refine qA hR rfl (fun _ hS => Yld.neq hS rfl rfl) ?_
        refine qB (t := 188) false rfl (by decide) ?_
        refine qM hR ?_
        refine qZ ?_
        refine qZ ?_
        refine qZ ?_
        refine qU ?_
        refine qU ?_
        refine qU ?_
        refine qU ?_
        refine qU ?_
        refine qZ ?_
        refine qZ ?_
        refine qU ?_
        refine qU ?_
        refine qU ?_
        refine qU ?_
        refine qZ ?_
        refine qZ ?_
        refine qU ?_
        refine qU ?_
        refine qU ?_
        refine qU ?_
        refine qU ?_
        refine qZ ?_
        refine qA hR rfl (fun _ hS => Yld.pickF hS rfl rfl) ?_
        intro aa hS
        refine wpList_nil ?_
        refine hK1156 _ _ ?_
        refine condF hS rfl ?_
        refine wp_skip ?_
        refine hK1124 _ _ ?_
        refine wp_region_lit ?_
        refine sA hS hR adQ (by decide) ?_; clear hS; intro aa hS
        revert aa
        refine qM hR ?_
        intro aa hS
        refine wpList_nil ?_
        rw [← hfE] at hR hM2
        refine ⟨k + 1, ?_, ?_, hS.le (Le.cons rfl (Le.nilapp (Le.cons rfl (Le.cons rfl (Le.cons rfl (Le.cons rfl (Le.nil _))))))), hR.sub (Ex.take pkQ (Ex.nilapp exQ))⟩
        ·
         exact ⟨by omega, hM2⟩
        ·
         omega
       ·
        intro hg hS
        have h9 := hF.any; dsimp only at h9; omega
 ·
  intro hg hS
  obtain rfl : mm = k := by omega
  refine condF hS rfl ?_
  refine wp_exit ?_
  refine hK1119 _ _ ?_
  refine wp_seq_k ?_; intro K1157 hK1157
  refine wp_region_lit ?_
  revert aa
  refine qN hR ?_
  intro aa hS
  refine wpList_nil ?_
  refine hK1157 _ _ ?_
  refine wp_ret ?_
  repeat first | with_reducible refine thenR ?_ | with_reducible refine blockR ?_ | with_reducible refine scopeR ?_
  refine ret1 (fn := Try.f4) (e := .ret) (.inl rfl) Try.results4 hS hR ⟨_, (.tmp rfl), ?_⟩
  exact ⟨rfl, (hR.sub exQ)⟩
end Go.Proofs.Ytkhdejjompbklaa.Sx
