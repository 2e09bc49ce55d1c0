/-
 
-/
import Derived.Test.YthjfclljjcpikaaRfC
import Derived.Test.YthjfclljjcpikaaRfN
namespace Go.Proofs.Ythjfclljjcpikaa.Sx
open Go
set_option linter.unusedVariables false
set_option linter.unusedSimpArgs false

theorem bld30_  (w : World) : (Instr.build 30 [].toArray).run Try.prog w = .ok (.agg [.int .u8 0, .int .u32 0, .int .i64 0].toArray) w := by kernel_rfl
theorem bld30_1_2 (x1 : Int) (x2 : Int) (w : World) : (Instr.build 30 [(1, .int .u32 x1), (2, .int .i64 x2)].toArray).run Try.prog w = .ok (.agg [.int .u8 0, .int .u32 x1, .int .i64 x2].toArray) w := by kernel_rfl

theorem optV_eq {o : Option Nat} : optV o = .tuple [.int .i64 ((o.getD 0 : Nat) : Int), .bool o.isSome].toArray := by cases o <;> rfl
set_option maxHeartbeats 2000000 in
set_option maxRecDepth 20000 in
theorem agrees31_ok {S lim b : Nat} {q : RQ} {T : So} {k a z : Int} {l : List HP} {w : World} (hF : SF S lim T) (h2 : S ≤ 4096) (h4 : lim ≤ 64) (ha : 0 ≤ a ∧ a ≤ 4294967295) (hR : Sep (sourceA ss b S lim T :: refS rt q T :: l) w) : CallR Try.prog 38 [.pointer (some ⟨b, 0, none⟩), refV S lim q T, .agg [.int .u8 k, .int .u32 a, .int .i64 z].toArray] w (fun v w' => v = .bool true ∧ Sep (sourceA ss b S lim T :: refS rt q T :: l) w') := by
 refine enter Try.func38 rfl Try.ntmps38 (Nat.le_of_ble_eq_true rfl) ?_; intro aa hS
 have hB := hF.rb h2
 have hBo := hB.o
 have hBr := hB.r
 have hcl := cst_len (l := slO T.O a)
 have hll := hF.lim a
 have hal := hF.allLen
 refine wp_seq_k ?_; intro K1018 hK1018
 refine wp_region_lit ?_
 refine sB (Bbox hS hR rfl (by rfl) (by decide) ?_); clear hS hR; intro aa ww bb4 hS hR
 refine sB (Bbox hS hR rfl (by rfl) (by decide) ?_); clear hS hR; intro aa ww bb5 hS hR
 revert aa
 refine qN hR ?_
 intro aa hS
 refine wpList_nil ?_
 refine hK1018 _ _ ?_
 refine wp_seq_k ?_; intro K1019 hK1019
 refine wp_region_lit ?_
 revert aa
 refine qM hR ?_
 refine qA hR rfl (fun _ hS => Yld.fieldAddr hS rfl 1 Try.underlying30 rfl rfl info28 (by decide)) ?_
 refine qA hR rfl (fun _ hS => Yld.load1 hS rfl Try.underlying28 rfl rdQ) ?_
 intro aa hS
 refine sB (Bcall hS rfl Try.call22 (soSlots_ok (a := a) ha (hR.pk (r := sourceA _ b _ _ _) pkQ)) (by decide) ?_); clear hS; intro aa ww vv hS hp
 clear hR
 obtain ⟨ra, ca, rfl, hR⟩ := hp
 revert aa
 refine qM hR ?_
 intro aa hS
 refine sB (Bcall hS rfl Try.call23 (soAll_ok (hR.pk (r := sourceA _ b _ _ _) pkQ)) (by decide) ?_); clear hS; intro aa ww vv hS hp
 clear hR
 obtain ⟨rb, cb, rfl, hR⟩ := hp
 revert aa
 refine qN hR ?_
 refine qN hR ?_
 intro aa hS
 refine wpList_nil ?_
 refine hK1019 _ _ ?_
 refine wp_seq_k ?_; intro K1020 hK1020
 refine wp_region_lit ?_
 refine sA hS hR (Yld.loadAgg hS rfl Try.underlying80 rfl info80 rdsQ5 (by rfl)) (by decide) ?_; clear hS; intro aa hS
 revert aa
 refine qA hR rfl (fun _ hS => Yld.fieldAddr hS rfl 1 Try.underlying30 rfl rfl info28 (by decide)) ?_
 refine qA hR rfl (fun _ hS => Yld.load1 hS rfl Try.underlying28 rfl rdQ) ?_
 intro aa hS
 refine sB (Bcall hS rfl Try.call61 (rfSlots_ok (a := a) hB (hR.pk (r := refS _ _ _) pkQ)) (by decide) ?_); clear hS; intro aa ww vv hS hp
 clear hR
 obtain ⟨rc, cc, rfl, hR⟩ := hp
 revert aa
 refine qN hR ?_
 intro aa hS
 refine wpList_nil ?_
 refine hK1020 _ _ ?_
 refine wp_seq_k ?_; intro K1021 hK1021
 refine wp_region_lit ?_
 revert aa
 refine qM hR ?_
 refine qA hR rfl (fun _ hS => Yld.fieldAddr hS rfl 2 Try.underlying30 rfl rfl info3 (by decide)) ?_
 refine qA hR rfl (fun _ hS => Yld.load1 hS rfl Try.underlying3 rfl rdQ) ?_
 intro aa hS
 refine sB (Bcall hS rfl Try.call21 (soOf_ok (x := z) (hR.pk (r := sourceA _ b _ _ _) pkQ)) (by decide) ?_); clear hS; intro aa ww vv hS hp
 clear hR
 obtain ⟨rfl, hR⟩ := hp
 revert aa
 refine qM hR ?_
 refine qX hR ?_
 refine qX hR ?_
 refine qN hR ?_
 refine qN hR ?_
 intro aa hS
 refine wpList_nil ?_
 refine hK1021 _ _ ?_
 refine wp_seq_k ?_; intro K1022 hK1022
 refine wp_region_lit ?_
 refine sA hS hR (Yld.loadAgg hS rfl Try.underlying80 rfl info80 rdsQ5 (by rfl)) (by decide) ?_; clear hS; intro aa hS
 revert aa
 refine qA hR rfl (fun _ hS => Yld.fieldAddr hS rfl 2 Try.underlying30 rfl rfl info3 (by decide)) ?_
 refine qA hR rfl (fun _ hS => Yld.load1 hS rfl Try.underlying3 rfl rdQ) ?_
 intro aa hS
 refine sB (Bcall hS rfl Try.call60 (rfOf_ok (z := z) hB (hR.pk (r := refS _ _ _) pkQ)) (by decide) ?_); clear hS; intro aa ww vv hS hp
 clear hR
 obtain ⟨rfl, hR⟩ := hp
 revert aa
 refine qM hR ?_
 refine qX hR ?_
 refine qX hR ?_
 refine qN hR ?_
 refine qN hR ?_
 intro aa hS
 refine wpList_nil ?_
 refine hK1022 _ _ ?_
 refine wp_seq_k ?_; intro K1023 hK1023
 refine wp_region_lit ?_
 revert aa
 refine qM hR ?_
 refine qA hR rfl (fun _ hS => Yld.fieldAddr hS rfl 1 Try.underlying30 rfl rfl info28 (by decide)) ?_
 refine qA hR rfl (fun _ hS => Yld.load1 hS rfl Try.underlying28 rfl rdQ) ?_
 intro aa hS
 refine sB (Bcall hS rfl Try.call13 (soRecord_ok (a := a) ha (hR.pk (r := sourceA _ b _ _ _) pkQ)) (by decide) ?_); clear hS; intro aa ww vv hS hp
 clear hR
 obtain ⟨rfl, hR⟩ := hp
 obtain ⟨o, ho⟩ : ∃ y, rcR T.R a = y := ⟨_, rfl⟩
 rw [ho, optV_eq] at hS
 revert aa
 refine qM hR ?_
 refine qX hR ?_
 refine qX hR ?_
 refine qN hR ?_
 refine qN hR ?_
 intro aa hS
 refine wpList_nil ?_
 refine hK1023 _ _ ?_
 refine wp_seq_k ?_; intro K1024 hK1024
 refine wp_region_lit ?_
 refine sA hS hR (Yld.loadAgg hS rfl Try.underlying80 rfl info80 rdsQ5 (by rfl)) (by decide) ?_; clear hS; intro aa hS
 revert aa
 refine qA hR rfl (fun _ hS => Yld.fieldAddr hS rfl 1 Try.underlying30 rfl rfl info28 (by decide)) ?_
 refine qA hR rfl (fun _ hS => Yld.load1 hS rfl Try.underlying28 rfl rdQ) ?_
 intro aa hS
 refine sB (Bcall hS rfl Try.call62 (rfRecord_ok (a := a) hB (hR.pk (r := refS _ _ _) pkQ)) (by decide) ?_); clear hS; intro aa ww vv hS hp
 clear hR
 obtain ⟨rfl, hR⟩ := hp
 rw [ho, optV_eq] at hS
 revert aa
 refine qM hR ?_
 refine qX hR ?_
 refine qX hR ?_
 refine qN hR ?_
 refine qN hR ?_
 intro aa hS
 refine wpList_nil ?_
 refine hK1024 _ _ ?_
 refine wp_seq_k ?_; intro K1025 hK1025
 refine wp_seq_k ?_; intro K1026 hK1026
 refine drawn (by kernel_rfl) hR Ex.refl ?_; clear hR; intro ww hR hR0
 revert aa
 refine eA 0 rfl (by kernel_rfl) (fun _ _ _ h => h) hR0 rfl (fun _ hS => Yld.move hS rfl) ?_
 refine eA 1 rfl (by kernel_rfl) (fun _ _ _ h => h) hR0 rfl (fun _ hS => Yld.move hS rfl) ?_
 intro aa hS
 refine dOne (i := 2) (by kernel_rfl) ?_
 refine dop rfl (Bcall hS rfl Try.call26 (eqI_ok (q1 := ra) (q2 := rc) (by omega) (by omega) ((hR.pk (r := sls rc _ _ _ _ _) pkQ).pk (r := sls ra _ _ _ _ _) pkQ)) (by decide) ?_); clear hS; intro aa ww vv hS hp
 clear hR hR0
 obtain ⟨rfl, hR⟩ := hp
 rw [decide_eq_true rfl] at hS
 refine dnext (hR.sub exQ) ?_; intro hR0
 revert aa
 refine eA 3 rfl (by kernel_rfl) (fun _ _ _ h => h) hR0 rfl (fun _ hS => Yld.not hS rfl) ?_
 refine qB (t := 59) false rfl (by rfl) ?_
 refine eA 4 rfl (by kernel_rfl) (fun _ _ _ h => h) hR0 rfl (fun _ hS => Yld.move hS rfl) ?_
 refine eAg 5 rfl (by kernel_rfl) (fun _ _ _ h => h) hR0 rfl rfl rfl (fun _ hS => Yld.move hS rfl) ?_
 intro aa hS
 refine dAg 6 rfl (by kernel_rfl) (by kernel_rfl) (by kernel_rfl) (fun _ _ _ h => h) hS rfl rfl hR0 (Yld.loadAgg hS rfl Try.underlying80 rfl info80 rdsQ5 (by rfl)) (by decide) ?_; clear hS; intro aa hS
 refine dOne (i := 7) (by kernel_rfl) ?_
 refine dopg rfl hS rfl rfl (Bcall hS rfl Try.call63 (rfAll_ok hB hF (hR.pk (r := refS _ _ _) pkQ)) (by decide) ?_); clear hS; intro aa ww vv hS hp
 clear hR hR0
 obtain ⟨rd, cd, rfl, hR⟩ := hp
 refine dnext (hR.sub exQ) ?_; intro hR0
 refine dOne (i := 8) (by kernel_rfl) ?_
 refine dopg rfl hS rfl rfl (Bcall hS rfl Try.call27 (eqU_ok (q1 := rb) (q2 := rd) (by omega) (by omega) ((hR.pk (r := sls rd _ _ _ _ _) pkQ).pk (r := sls rb _ _ _ _ _) pkQ)) (by decide) ?_); clear hS; intro aa ww vv hS hp
 clear hR hR0
 obtain ⟨rfl, hR⟩ := hp
 rw [decide_eq_true rfl] at hS
 refine dnext (hR.sub exQ) ?_; intro hR0
 revert aa
 refine eAg 9 rfl (by kernel_rfl) (fun _ _ _ h => h) hR0 rfl rfl rfl (fun _ hS => Yld.not hS rfl) ?_
 refine qB (t := 65) false rfl (by rfl) ?_
 refine eA 10 rfl (by kernel_rfl) (fun _ _ _ h => h) hR0 rfl (fun _ hS => Yld.pickF hS rfl rfl) ?_
 refine eA 11 rfl (by kernel_rfl) (fun _ _ _ h => h) hR0 rfl (fun _ hS => Yld.move hS rfl) ?_
 refine eAg 12 rfl (by kernel_rfl) (fun _ _ _ h => h) hR0 rfl rfl rfl (fun _ hS => Yld.move hS rfl) ?_
 refine eAg 13 rfl (by kernel_rfl) (fun _ _ _ h => h) hR0 rfl rfl rfl (fun _ hS => Yld.move hS rfl) ?_
 refine eAg 14 rfl (by kernel_rfl) (fun _ _ _ h => h) hR0 rfl rfl rfl (fun _ hS => Yld.neq hS rfl rfl) ?_
 refine qB (t := 70) false rfl (by simp) ?_
 refine eA 15 rfl (by kernel_rfl) (fun _ _ _ h => h) hR0 rfl (fun _ hS => Yld.pickF hS rfl rfl) ?_
 refine eA 16 rfl (by kernel_rfl) (fun _ _ _ h => h) hR0 rfl (fun _ hS => Yld.move hS rfl) ?_
 refine eAg 17 rfl (by kernel_rfl) (fun _ _ _ h => h) hR0 rfl rfl rfl (fun _ hS => Yld.move hS rfl) ?_
 refine eAg 18 rfl (by kernel_rfl) (fun _ _ _ h => h) hR0 rfl rfl rfl (fun _ hS => Yld.move hS rfl) ?_
 refine eAg 19 rfl (by kernel_rfl) (fun _ _ _ h => h) hR0 rfl rfl rfl (fun _ hS => Yld.neqB hS rfl rfl Try.underlying4) ?_
 refine qB (t := 75) false rfl (by simp) ?_
 refine eA 20 rfl (by kernel_rfl) (fun _ _ _ h => h) hR0 rfl (fun _ hS => Yld.pickF hS rfl rfl) ?_
 refine eA 21 rfl (by kernel_rfl) (fun _ _ _ h => h) hR0 rfl (fun _ hS => Yld.move hS rfl) ?_
 refine eAg 22 rfl (by kernel_rfl) (fun _ _ _ h => h) hR0 rfl rfl rfl (fun _ hS => Yld.move hS rfl) ?_
 refine eAg 23 rfl (by kernel_rfl) (fun _ _ _ h => h) hR0 rfl rfl rfl (fun _ hS => Yld.move hS rfl) ?_
 refine eAg 24 rfl (by kernel_rfl) (fun _ _ _ h => h) hR0 rfl rfl rfl (fun _ hS => Yld.neq hS rfl rfl) ?_
 refine qB (t := 80) false rfl (by simp) ?_
 refine eA 25 rfl (by kernel_rfl) (fun _ _ _ h => h) hR0 rfl (fun _ hS => Yld.pickF hS rfl rfl) ?_
 refine eA 26 rfl (by kernel_rfl) (fun _ _ _ h => h) hR0 rfl (fun _ hS => Yld.move hS rfl) ?_
 refine eAg 27 rfl (by kernel_rfl) (fun _ _ _ h => h) hR0 rfl rfl rfl (fun _ hS => Yld.move hS rfl) ?_
 refine eAg 28 rfl (by kernel_rfl) (fun _ _ _ h => h) hR0 rfl rfl rfl (fun _ hS => Yld.move hS rfl) ?_
 refine eAg 29 rfl (by kernel_rfl) (fun _ _ _ h => h) hR0 rfl rfl rfl (fun _ hS => Yld.neqB hS rfl rfl Try.underlying4) ?_
 refine qB (t := 85) false rfl (by simp) ?_
 refine eA 30 rfl (by kernel_rfl) (fun _ _ _ h => h) hR0 rfl (fun _ hS => Yld.pickF hS rfl rfl) ?_
 refine eA 31 rfl (by kernel_rfl) (fun _ _ _ h => h) hR0 rfl (fun _ hS => Yld.move hS rfl) ?_
 refine eAg 32 rfl (by kernel_rfl) (fun _ _ _ h => h) hR0 rfl rfl rfl (fun _ hS => Yld.move hS rfl) ?_
 refine eAg 34 rfl (by kernel_rfl) (fun _ _ _ h => h) hR0 rfl rfl rfl (fun _ hS => Yld.fieldAddr hS rfl 3 Try.underlying80 rfl rfl info78 (by decide)) ?_
 refine eAg 35 rfl (by kernel_rfl) (fun _ _ _ h => h) hR0 rfl rfl rfl (fun _ hS => Yld.load1 hS rfl Try.underlying78 rfl rdQ) ?_
 refine eAg 36 rfl (by kernel_rfl) (fun _ _ _ h => h) hR0 rfl rfl rfl (fun _ hS => Yld.len hS rfl Try.underlying78) ?_
 intro aa hS
 refine dOne (i := 33) (by kernel_rfl) ?_
 refine dopg rfl hS rfl rfl (Bcall hS rfl Try.call18 (soLen_ok (hR.pk (r := sourceA _ b _ _ _) pkQ)) (by decide) ?_); clear hS; intro aa ww vv hS hp
 clear hR hR0
 obtain ⟨rfl, hR⟩ := hp
 refine dnext (hR.sub exQ) ?_; intro hR0
 revert aa
 refine eAg 37 rfl (by kernel_rfl) (fun _ _ _ h => h) hR0 rfl rfl rfl (fun _ hS => Yld.neq hS rfl rfl) ?_
 refine qB (t := 93) false rfl (by simp) ?_
 refine eA 38 rfl (by kernel_rfl) (fun _ _ _ h => h) hR0 rfl (fun _ hS => Yld.pickF hS rfl rfl) ?_
 intro aa hS
 refine wpAnyH_done (by kernel_rfl) ?_ _; clear hR0
 refine hK1026 _ _ ?_
 refine condF hS rfl ?_
 refine wp_skip ?_
 refine hK1025 _ _ ?_
 refine wp_seq_k ?_; intro K1027 hK1027
 refine wp_region_lit ?_
 revert aa
 refine qM hR ?_
 intro aa hS
 refine sB (Bclear0 hS hR rfl Try.underlying40 info3 rfl pkQ ?_); clear hR; intro ww hR
 refine wpList_nil ?_
 refine hK1027 _ _ ?_
 refine wp_seq_k ?_; intro K1028 hK1028
 refine wp_region_lit ?_
 revert aa
 refine qM hR ?_
 intro aa hS
 refine sB (Bclear0 hS hR rfl Try.underlying46 info28 rfl pkQ ?_); clear hR; intro ww hR
 refine wpList_nil ?_
 refine hK1028 _ _ ?_
 refine wp_seq_k ?_; intro K1029 hK1029
 refine drawn (by kernel_rfl) hR Ex.refl ?_; clear hR; intro ww hR hR0
 revert aa
 refine eA 0 rfl (by kernel_rfl) (fun _ _ _ h => h) hR0 rfl (fun _ hS => Yld.move hS rfl) ?_
 refine eA 1 rfl (by kernel_rfl) (fun _ _ _ h => h) hR0 rfl (fun _ hS => Yld.fieldAddr hS rfl 1 Try.underlying30 rfl rfl info28 (by decide)) ?_
 refine eA 2 rfl (by kernel_rfl) (fun _ _ _ h => h) hR0 rfl (fun _ hS => Yld.load1 hS rfl Try.underlying28 rfl rdQ) ?_
 refine eA 4 rfl (by kernel_rfl) (fun _ _ _ h => h) hR0 rfl (fun _ hS => Yld.move hS rfl) ?_
 refine eA 5 rfl (by kernel_rfl) (fun _ _ _ h => h) hR0 rfl (fun _ hS => Yld.len hS rfl Try.underlying40) ?_
 intro aa hS
 refine dOne (i := 3) (by kernel_rfl) ?_
 refine dop rfl (Bcall hS rfl Try.call14 (soCount_ok (a := a) ha (hR.pk (r := sourceA _ b _ _ _) pkQ)) (by decide) ?_); clear hS; intro aa ww vv hS hp
 clear hR hR0
 obtain ⟨rfl, hR⟩ := hp
 refine dnext (hR.sub exQ) ?_; intro hR0
 revert aa
 refine eA 6 rfl (by kernel_rfl) (fun _ _ _ h => h) hR0 rfl (fun _ hS => Yld.eql hS rfl rfl) ?_
 refine qB (t := 103) true rfl (by exact decide_eq_true (by omega)) ?_
 refine eA 7 rfl (by kernel_rfl) (fun _ _ _ h => h) hR0 rfl (fun _ hS => Yld.move hS rfl) ?_
 refine eAg 8 rfl (by kernel_rfl) (fun _ _ _ h => h) hR0 rfl rfl rfl (fun _ hS => Yld.move hS rfl) ?_
 refine eAg 9 rfl (by kernel_rfl) (fun _ _ _ h => h) hR0 rfl rfl rfl (fun _ hS => Yld.fieldAddr hS rfl 1 Try.underlying30 rfl rfl info28 (by decide)) ?_
 refine eAg 10 rfl (by kernel_rfl) (fun _ _ _ h => h) hR0 rfl rfl rfl (fun _ hS => Yld.load1 hS rfl Try.underlying28 rfl rdQ) ?_
 refine eAg 12 rfl (by kernel_rfl) (fun _ _ _ h => h) hR0 rfl rfl rfl (fun _ hS => Yld.fieldAddr hS rfl 1 Try.underlying80 rfl rfl info3 (by decide)) ?_
 refine eAg 13 rfl (by kernel_rfl) (fun _ _ _ h => h) hR0 rfl rfl rfl (fun _ hS => Yld.load1 hS rfl Try.underlying3 rfl rdQ) ?_
 refine eAg 14 rfl (by kernel_rfl) (fun _ _ _ h => h) hR0 rfl rfl rfl (fun _ hS => Yld.move hS rfl) ?_
 refine eAg 15 rfl (by kernel_rfl) (fun _ _ _ h => h) hR0 rfl rfl rfl (fun _ hS => Yld.len hS rfl Try.underlying40) ?_
 intro aa hS
 refine dAg 16 rfl (by kernel_rfl) (by kernel_rfl) (by kernel_rfl) (fun _ _ _ h => h) hS rfl rfl hR0 suQ (by decide) ?_; clear hS; intro aa hS
 refine dOne (i := 11) (by kernel_rfl) ?_
 refine dopg rfl hS rfl rfl (Bcall hS rfl Try.call19 (soRoom_ok (a := a) ha (hR.pk (r := sourceA _ b _ _ _) pkQ)) (by decide) ?_); clear hS; intro aa ww vv hS hp
 clear hR hR0
 obtain ⟨rfl, hR⟩ := hp
 refine dnext (hR.sub exQ) ?_; intro hR0
 revert aa
 refine eAg 17 rfl (by kernel_rfl) (fun _ _ _ h => h) hR0 rfl rfl rfl (fun _ hS => Yld.eql hS rfl rfl) ?_
 refine qB (t := 114) true rfl (by exact decide_eq_true (by omega)) ?_
 refine eA 18 rfl (by kernel_rfl) (fun _ _ _ h => h) hR0 rfl (fun _ hS => Yld.pickT hS rfl rfl) ?_
 refine eA 19 rfl (by kernel_rfl) (fun _ _ _ h => h) hR0 rfl (fun _ hS => Yld.assign hS rfl) ?_
 intro aa hS
 refine wpAnyH_done (by kernel_rfl) ?_ _; clear hR0
 refine hK1029 _ _ ?_
 refine wp_ret ?_
 repeat first | with_reducible refine thenR ?_ | with_reducible refine blockR ?_ | with_reducible refine scopeR ?_
 refine ret1 (fn := Try.f38) (e := .ret) (.inl rfl) Try.results38 hS hR ⟨_, (.tmp rfl), ?_⟩
 exact ⟨rfl, (hR.sub exQ)⟩
set_option maxHeartbeats 1000000 in
set_option maxRecDepth 20000 in
theorem tells31_no {m i : Int} {n c : Nat} {q : Option Addr} {l : List HP} {w : World} (hx : ¬ (1 ≤ m ∧ m ≤ 4096 ∧ 1 ≤ i ∧ i ≤ 64)) (hR : Sep l w) : CallR Try.prog 15 [.int .i64 m, .int .i64 i, .slice q n c] w (fun v w' => v = .bool true ∧ Sep l w') := by
 refine enter Try.func15 rfl Try.ntmps15 (Nat.le_of_ble_eq_true rfl) ?_; intro aa hS
 refine wp_seq_k ?_; intro K1030 hK1030
 refine wp_region_lit ?_
 revert aa
 refine qN hR ?_
 intro aa hS
 refine wpList_nil ?_
 refine hK1030 _ _ ?_
 refine wp_seq_k ?_; intro K1031 hK1031
 refine wp_region_lit ?_
 revert aa
 refine qM hR ?_
 refine qM hR ?_
 intro aa hS
 refine sB (Bcall hS rfl Try.call16 (soNew_bad (m := m) (i := i) hR hx) (by decide) ?_); clear hS; intro aa ww vv hS hp
 clear hR
 obtain ⟨rfl, hR⟩ := hp
 revert aa
 refine qM hR ?_
 refine qX hR ?_
 refine qX hR ?_
 refine qN hR ?_
 refine qN hR ?_
 intro aa hS
 refine wpList_nil ?_
 refine hK1031 _ _ ?_
 refine wp_seq_k ?_; intro K1032 hK1032
 refine wp_region_lit ?_
 revert aa
 refine qM hR ?_
 refine qM hR ?_
 intro aa hS
 refine sB (Bcall hS rfl Try.call35 (rfNew_bad (m := m) (i := i) hR hx) (by decide) ?_); clear hS; intro aa ww vv hS hp
 clear hR
 obtain ⟨rfl, hR⟩ := hp
 revert aa
 refine qM hR ?_
 refine qX hR ?_
 refine qX hR ?_
 intro aa hS
 refine sB (Balloc hS hR info80 (by rfl) (by rfl) (by decide) ?_); clear hS hR; intro aa ww bb9 hS hR
 refine sB (Bstore hS hR rfl rfl (by rfl) info80 (by rfl) pkQ (by rfl) (Nat.le_of_ble_eq_true rfl) ?_); clear hR; intro ww hR
 revert aa
 refine qN hR ?_
 intro aa hS
 refine wpList_nil ?_
 refine hK1032 _ _ ?_
 refine wp_seq_k ?_; intro K1033 hK1033
 refine wp_seq_k ?_; intro K1034 hK1034
 refine wp_region_lit ?_
 revert aa
 refine qM hR ?_
 refine qM hR ?_
 refine qA hR rfl (fun _ hS => Yld.neq hS rfl rfl) ?_
 refine qB (t := 31) false rfl (by simp) ?_
 refine qM hR ?_
 refine qMg hR ?_
 refine qAg hR rfl rfl rfl (fun _ hS => Yld.eqlNil hS rfl rfl Try.underlying24) ?_
 refine qMg hR ?_
 refine qAg hR rfl rfl rfl (fun _ hS => Yld.neq hS rfl rfl) ?_
 refine qAg hR rfl rfl rfl (fun _ hS => Yld.neqB hS rfl rfl Try.underlying4) ?_
 refine qB (t := 37) false rfl (by rfl) ?_
 refine qA hR rfl (fun _ hS => Yld.pickF hS rfl rfl) ?_
 intro aa hS
 refine wpList_nil ?_
 refine hK1034 _ _ ?_
 refine condF hS rfl ?_
 refine wp_skip ?_
 refine hK1033 _ _ ?_
 refine wp_seq_k ?_; intro K1035 hK1035
 refine wp_seq_k ?_; intro K1036 hK1036
 refine wp_region_lit ?_
 revert aa
 refine qM hR ?_
 refine qA hR rfl (fun _ hS => Yld.neq hS rfl rfl) ?_
 refine qB (t := 40) true rfl (by simp) ?_
 intro aa hS
 refine wpList_nil ?_
 refine hK1036 _ _ ?_
 refine condT hS rfl ?_
 refine wp_seq_k ?_; intro K1037 hK1037
 refine wp_region_lit ?_
 revert aa
 refine qM hR ?_
 intro aa hS
 refine sB (Bcall hS rfl Try.call17 (soOpen_nil (a := 0) (x := 0) (b := 0) hR) (by decide) ?_); clear hS; intro aa ww vv hS hp
 clear hR
 obtain ⟨rfl, hR⟩ := hp
 revert aa
 refine qA hR rfl (fun _ hS => Yld.eql hS rfl rfl) ?_
 refine qB (t := 43) true rfl (by simp) ?_
 refine qN hR ?_
 intro aa hS
 refine wpList_nil ?_
 refine hK1037 _ _ ?_
 refine wp_ret ?_
 repeat first | with_reducible refine thenR ?_ | with_reducible refine blockR ?_ | with_reducible refine scopeR ?_
 refine ret1 (fn := Try.f15) (e := .ret) (.inl rfl) Try.results15 hS hR ⟨_, (.tmp rfl), ?_⟩
 exact ⟨rfl, (hR.sub exQ)⟩
set_option maxHeartbeats 4000000 in
set_option maxRecDepth 20000 in
theorem tells31_yes {S lim n c : Nat} {q : Option Addr} {l : List HP} {w : World} (hrow : ∀ k, k < n → ∃ ba ia s0 s1 s2, q = some ⟨ba, ia, none⟩ ∧ 0 ≤ s0 ∧ s0 ≤ 255 ∧ 0 ≤ s1 ∧ s1 ≤ 4294967295 ∧ Rds l ba (ia + k * 3) [.int .u8 s0, .int .u32 s1, .int .i64 s2]) (hn : n ≤ 9223372036854775806) (h1 : 1 ≤ S) (h2 : S ≤ 4096) (h3 : 1 ≤ lim) (h4 : lim ≤ 64) (hR : Sep l w) : CallR Try.prog 15 [.int .i64 (S : Int), .int .i64 (lim : Int), .slice q n c] w (fun v w' => v = .bool true ∧ Sep l w') := by
 refine enter Try.func15 rfl Try.ntmps15 (Nat.le_of_ble_eq_true rfl) ?_; intro aa hS
 refine wp_seq_k ?_; intro K1038 hK1038
 refine wp_region_lit ?_
 revert aa
 refine qN hR ?_
 intro aa hS
 refine wpList_nil ?_
 refine hK1038 _ _ ?_
 refine wp_seq_k ?_; intro K1039 hK1039
 refine wp_region_lit ?_
 revert aa
 refine qM hR ?_
 refine qM hR ?_
 intro aa hS
 refine sB (Bcall hS rfl Try.call16 (soNew_ok (S := S) (lim := lim) hR h1 h2 h3 h4) (by decide) ?_); clear hS; intro aa ww vv hS hp
 clear hR
 obtain ⟨b, rfl, hR⟩ := hp
 revert aa
 refine qM hR ?_
 refine qX hR ?_
 refine qX hR ?_
 refine qN hR ?_
 refine qN hR ?_
 intro aa hS
 refine wpList_nil ?_
 refine hK1039 _ _ ?_
 refine wp_seq_k ?_; intro K1040 hK1040
 refine wp_region_lit ?_
 revert aa
 refine qM hR ?_
 refine qM hR ?_
 intro aa hS
 refine sB (Bcall hS rfl Try.call35 (rfNew_ok (S := S) (lim := lim) hR h1 h2 h3 h4) (by decide) ?_); clear hS; intro aa ww vv hS hp
 clear hR
 obtain ⟨r0, rfl, hR⟩ := hp
 revert aa
 refine qM hR ?_
 refine qX hR ?_
 refine qX hR ?_
 intro aa hS
 refine sB (Balloc hS hR info80 (by rfl) (by rfl) (by decide) ?_); clear hS hR; intro aa ww bb9 hS hR
 refine sB (Bstore hS hR rfl rfl (by rfl) info80 (by rfl) pkQ (by rfl) (Nat.le_of_ble_eq_true rfl) ?_); clear hR; intro ww hR
 revert aa
 refine qN hR ?_
 intro aa hS
 refine wpList_nil ?_
 refine hK1040 _ _ ?_
 refine wp_seq_k ?_; intro K1041 hK1041
 refine wp_seq_k ?_; intro K1042 hK1042
 refine wp_region_lit ?_
 revert aa
 refine qM hR ?_
 refine qM hR ?_
 refine qA hR rfl (fun _ hS => Yld.neq hS rfl rfl) ?_
 refine qB (t := 31) false rfl (by simp) ?_
 refine qM hR ?_
 refine qMg hR ?_
 refine qAg hR rfl rfl rfl (fun _ hS => Yld.eqlNil hS rfl rfl Try.underlying24) ?_
 refine qMg hR ?_
 refine qAg hR rfl rfl rfl (fun _ hS => Yld.neq hS rfl rfl) ?_
 refine qAg hR rfl rfl rfl (fun _ hS => Yld.neqB hS rfl rfl Try.underlying4) ?_
 refine qB (t := 37) false rfl (by rfl) ?_
 refine qA hR rfl (fun _ hS => Yld.pickF hS rfl rfl) ?_
 intro aa hS
 refine wpList_nil ?_
 refine hK1042 _ _ ?_
 refine condF hS rfl ?_
 refine wp_skip ?_
 refine hK1041 _ _ ?_
 refine wp_seq_k ?_; intro K1043 hK1043
 refine wp_seq_k ?_; intro K1044 hK1044
 refine wp_region_lit ?_
 revert aa
 refine qM hR ?_
 refine qA hR rfl (fun _ hS => Yld.neq hS rfl rfl) ?_
 refine qB (t := 40) false rfl (by simp) ?_
 intro aa hS
 refine wpList_nil ?_
 refine hK1044 _ _ ?_
 refine condF hS rfl ?_
 refine wp_skip ?_
 refine hK1043 _ _ ?_
 refine wp_seq_k ?_; intro K1045 hK1045
 refine wp_seq_k ?_; intro K1046 hK1046
 refine wp_region_lit ?_
 revert aa
 refine qM hR ?_
 refine qA hR rfl (fun _ hS => Yld.len hS rfl Try.underlying22) ?_
 refine qM hR ?_
 intro aa hS
 refine wpList_nil ?_
 refine hK1046 _ _ ?_
 refine wp_block ?_
 dsimp only [lay, List.set] at hR
 replace hR := hR.pk (r := blk bb9 [.int .i64 (S : Int), .int .i64 (lim : Int), .slice r0.r1 (T0 S).O.length r0.c1, .slice r0.r2 (T0 S).R.length r0.c2, .slice r0.r3 (cst (T0 S).A.free).length r0.c3] 80) pkQ
 replace hR := hR.pk (r := refS rt r0 (T0 S)) pkQ
 replace hR := hR.pk (r := sourceA ss b S lim (T0 S)) pkQ
 refine loopI (X := Nat × So × RQ) [(0, _), (7, _), (9, _), (44, _), (45, _)] (fun x => [(46, .int .i64 (x.1 : Int))]) (fun x => [sourceA ss b S lim x.2.1, refS rt x.2.2 x.2.1, blk bb9 [.int .i64 (S : Int), .int .i64 (lim : Int), .slice x.2.2.r1 x.2.1.O.length x.2.2.c1, .slice x.2.2.r2 x.2.1.R.length x.2.2.c2, .slice x.2.2.r3 (cst x.2.1.A.free).length x.2.2.c3] 80]) _ (fun x => x.1 ≤ n ∧ SF S lim x.2.1) (fun x => n - x.1) (0, T0 S, r0) ⟨Nat.zero_le _, SF.new h1 h2⟩ (hS.le (Le.cons rfl (Le.nilapp (Le.cons rfl (Le.cons rfl (Le.cons rfl (Le.cons rfl (Le.cons rfl (Le.nil _))))))))) hR ?_
 clear hS hR; rintro ⟨k, T, r⟩ aa ww hI hS hR; dsimp only [List.cons_append, List.nil_append] at hI hS hR
 refine wp_seq_k ?_; intro K1048 hK1048
 refine wp_region_lit ?_
 refine sA hS hR (Yld.lss hS rfl rfl) (by decide) ?_; clear hS; intro aa hS
 refine wpList_nil ?_
 refine hK1048 _ _ ?_
 refine wp_seq_k ?_; intro K1049 hK1049
 refine hS.splitB (t := 47) rfl ?_ ?_ <;> clear hS
 ·
  intro hg hS
  have hF := hI.2
  refine condT hS rfl ?_
  refine wp_skip ?_
  refine hK1049 _ _ ?_
  refine wp_seq_k ?_; intro K1050 hK1050
  refine wp_block ?_
  refine wp_seq_k ?_; intro K1051 hK1051
  refine wp_region_lit ?_
  obtain ⟨ba, ia, s0, s1, s2, hq, hs0, hs0b, hs1, hs1b, hc⟩ := hrow k (by omega)
  subst hq
  revert aa
  refine qA hR rfl (fun _ hS => by first | exact Yld.indexL (sz := 3) _ hS rfl rfl Try.underlying22 info30 pkQ rfl rfl (by omega) | exact Yld.indexB (sz := 3) _ hS rfl rfl Try.underlying22 info30 rfl rfl (by omega) | exact Yld.indexSlice hS rfl rfl Try.underlying22 info30 (by omega) (by omega)) ?_
  refine qA hR rfl (fun _ hS => Yld.loadAgg (vs := [.int .u8 s0, .int .u32 s1, .int .i64 s2]) hS rfl Try.underlying30 rfl info30 (Rds.mono (Rds.at hc (by first | rfl | omega)) exQ) (by rfl)) ?_
  intro aa hS
  refine sB (Balloc hS hR info30 (by rfl) (by rfl) (by decide) ?_); clear hS hR; intro aa ww bb12 hS hR
  refine sB (Bstore hS hR rfl rfl (by rfl) info30 (by rfl) pkQ (by rfl) (Nat.le_of_ble_eq_true rfl) ?_); clear hR; intro ww hR
  refine wpList_nil ?_
  refine hK1051 _ _ ?_
  refine wp_seq_k ?_; intro K1052 hK1052
  have tail1052 : ∀ (a z : Int) (ha : 0 ≤ a ∧ a ≤ 4294967295) (aa : Act) (ww : World), Has 120 aa [(0, .int .i64 (S : Int)), (7, .pointer (some ⟨b, 0, none⟩)), (9, .pointer (some ⟨bb9, 0, none⟩)), (12, .pointer (some ⟨bb12, 0, none⟩)), (44, .slice (some ⟨ba, ia, none⟩) n c), (45, .int .i64 (n : Int)), (46, .int .i64 (k : Int))] → Sep (sourceA ss b S lim T :: refS rt r T :: blk bb9 [.int .i64 (S : Int), .int .i64 (lim : Int), .slice r.r1 T.O.length r.c1, .slice r.r2 T.R.length r.c2, .slice r.r3 (cst T.A.free).length r.c3] 80 :: blk bb12 [.int .u8 s0, .int .u32 a, .int .i64 z] 30 :: l) ww → K1052 aa ww := by
   clear hS hR; intro a z ha aa ww hS hR
   refine hK1052 _ _ ?_
   refine wp_seq_k ?_; intro K1053 hK1053
   refine wp_region_lit ?_
   revert aa
   refine qN hR ?_
   refine qN hR ?_
   intro aa hS
   refine wpList_nil ?_
   refine hK1053 _ _ ?_
   refine wp_seq_k ?_; intro K1054 hK1054
   refine wp_seq_k ?_; intro K1055 hK1055
   refine wp_region_lit ?_
   revert aa
   refine qA hR rfl (fun _ hS => Yld.fieldAddr hS rfl 0 Try.underlying30 rfl rfl info5 (by decide)) ?_
   refine qA hR rfl (fun _ hS => Yld.load1 hS rfl Try.underlying5 rfl rdQ) ?_
   refine qA hR rfl (fun _ hS => by first | exact Yld.rem64 hS rfl rfl (by omega) | exact Yld.rem hS rfl rfl (by omega)) ?_
   refine qA hR rfl (fun _ hS => Yld.eql hS rfl rfl) ?_
   intro aa hS
   refine wpList_nil ?_
   refine hK1055 _ _ ?_
   refine hS.splitB (t := 65) rfl ?_ ?_ <;> clear hS
   ·
    intro hg hS
    refine condT hS rfl ?_
    refine wp_seq_k ?_; intro K1056 hK1056
    refine wp_region_lit ?_
    revert aa
    refine qM hR ?_
    refine qA hR rfl (fun _ hS => Yld.fieldAddr hS rfl 1 Try.underlying30 rfl rfl info28 (by decide)) ?_
    refine qA hR rfl (fun _ hS => Yld.load1 hS rfl Try.underlying28 rfl rdQ) ?_
    refine qA hR rfl (fun _ hS => Yld.fieldAddr hS rfl 2 Try.underlying30 rfl rfl info3 (by decide)) ?_
    refine qA hR rfl (fun _ hS => Yld.load1 hS rfl Try.underlying3 rfl rdQ) ?_
    intro aa hS
    refine sB (Bcall hS rfl Try.call17 (soOpen_ok (a := a) (x := z) ha (hR.pk (r := sourceA _ b _ _ _) pkQ)) (by decide) ?_); clear hS; intro aa ww vv hS hp
    clear hR
    obtain ⟨rfl, hR⟩ := hp
    revert aa
    refine qN hR ?_
    intro aa hS
    refine wpList_nil ?_
    refine hK1056 _ _ ?_
    refine wp_region_lit ?_
    refine sA hS hR (Yld.loadAgg hS rfl Try.underlying80 rfl info80 rdsQ5 (by rfl)) (by decide) ?_; clear hS; intro aa hS
    revert aa
    refine qA hR rfl (fun _ hS => Yld.fieldAddr hS rfl 1 Try.underlying30 rfl rfl info28 (by decide)) ?_
    refine qA hR rfl (fun _ hS => Yld.load1 hS rfl Try.underlying28 rfl rdQ) ?_
    refine qA hR rfl (fun _ hS => Yld.fieldAddr hS rfl 2 Try.underlying30 rfl rfl info3 (by decide)) ?_
    refine qA hR rfl (fun _ hS => Yld.load1 hS rfl Try.underlying3 rfl rdQ) ?_
    intro aa hS
    refine sB (Bcall hS rfl Try.call36 (rfOpen_ok (a := a) (x := z) hF h2 h4 (hR.pk (r := refS _ _ _) pkQ)) (by decide) ?_); clear hS; intro aa ww vv hS hp
    clear hR
    obtain ⟨r2, rfl, hR⟩ := hp
    have hF2 := hF.opnN ha (x := z)
    revert aa
    refine qM hR ?_
    refine qX hR ?_
    refine qX hR ?_
    intro aa hS
    refine sB (Bstore hS hR rfl rfl (by rfl) info80 (by rfl) pkQ (by rfl) (Nat.le_of_ble_eq_true rfl) ?_); clear hR; intro ww hR
    revert aa
    refine qN hR ?_
    intro aa hS
    refine wpList_nil ?_
    refine hK1054 _ _ ?_
    refine wp_seq_k ?_; intro K1057 hK1057
    refine wp_region_lit ?_
    revert aa
    refine qM hR ?_
    refine qM hR ?_
    refine qA hR rfl (fun _ hS => Yld.neq hS rfl rfl) ?_
    refine qB (t := 101) false rfl (by simp) ?_
    refine qM hR ?_
    refine qMg hR ?_
    intro aa hS
    refine sAg hS hR rfl rfl (Yld.loadAgg hS rfl Try.underlying80 rfl info80 rdsQ5 (by rfl)) (by decide) ?_; clear hS; intro aa hS
    refine sAg hS hR rfl rfl (Yld.loadAgg hS rfl Try.underlying30 rfl info30 rdsQ3 (by rfl)) (by decide) ?_; clear hS; intro aa hS
    refine sBg hS rfl rfl (Bcall hS rfl Try.call38 (agrees31_ok (T := (opnN S lim T a z)) (q := r2) (k := s0) (a := a) (z := z) hF2 h2 h4 ha ((hR.pk (r := refS _ _ _) pkQ).pk (r := sourceA _ b _ _ _) pkQ)) (by decide) ?_); clear hS; intro aa ww vv hS hp
    clear hR
    obtain ⟨rfl, hR⟩ := hp
    revert aa
    refine qAg hR rfl rfl rfl (fun _ hS => Yld.not hS rfl) ?_
    refine qB (t := 107) false rfl (by rfl) ?_
    refine qA hR rfl (fun _ hS => Yld.pickF hS rfl rfl) ?_
    intro aa hS
    refine wpList_nil ?_
    refine hK1057 _ _ ?_
    refine condF hS rfl ?_
    refine wp_skip ?_
    refine hK1050 _ _ ?_
    refine wp_region_lit ?_
    refine sA hS hR adQ (by decide) ?_; clear hS; intro aa hS
    revert aa
    refine qM hR ?_
    intro aa hS
    refine wpList_nil ?_
    try dsimp only [lay, List.set] at hR
    refine ⟨(k + 1, opnN S lim T a z, r2), ?_, ?_, hS.le (Le.cons rfl (Le.nilapp (Le.cons rfl (Le.cons rfl (Le.cons rfl (Le.cons rfl (Le.cons rfl (Le.nil _)))))))), hR.sub (Ex.take pkQ (Ex.take pkQ (Ex.take pkQ (Ex.nilapp exQ))))⟩
    ·
     dsimp only; exact ⟨by omega, hF2⟩
    ·
     dsimp only; omega
   ·
    intro hg hS
    refine condF hS rfl ?_
    refine wp_seq_k ?_; intro K1058 hK1058
    refine wp_region_lit ?_
    revert aa
    refine qN hR ?_
    refine qN hR ?_
    intro aa hS
    refine wpList_nil ?_
    refine hK1058 _ _ ?_
    refine wp_seq_k ?_; intro K1059 hK1059
    refine wp_region_lit ?_
    revert aa
    refine qM hR ?_
    refine qA hR rfl (fun _ hS => Yld.fieldAddr hS rfl 2 Try.underlying30 rfl rfl info3 (by decide)) ?_
    refine qA hR rfl (fun _ hS => Yld.load1 hS rfl Try.underlying3 rfl rdQ) ?_
    intro aa hS
    refine sB (Bcall hS rfl Try.call20 (soClose_ok (x := z) (hR.pk (r := sourceA _ b _ _ _) pkQ)) (by decide) ?_); clear hS; intro aa ww vv hS hp
    clear hR
    obtain ⟨rfl, hR⟩ := hp
    revert aa
    refine qM hR ?_
    refine qX hR ?_
    refine qX hR ?_
    refine qN hR ?_
    refine qN hR ?_
    intro aa hS
    refine wpList_nil ?_
    refine hK1059 _ _ ?_
    refine wp_seq_k ?_; intro K1060 hK1060
    refine wp_region_lit ?_
    refine sA hS hR (Yld.loadAgg hS rfl Try.underlying80 rfl info80 rdsQ5 (by rfl)) (by decide) ?_; clear hS; intro aa hS
    revert aa
    refine qA hR rfl (fun _ hS => Yld.fieldAddr hS rfl 2 Try.underlying30 rfl rfl info3 (by decide)) ?_
    refine qA hR rfl (fun _ hS => Yld.load1 hS rfl Try.underlying3 rfl rdQ) ?_
    intro aa hS
    refine sB (Bcall hS rfl Try.call37 (rfClose_ok (x := z) hF h2 (hR.pk (r := refS _ _ _) pkQ)) (by decide) ?_); clear hS; intro aa ww vv hS hp
    clear hR
    obtain ⟨r2, rfl, hR⟩ := hp
    have hF2 := hF.clsN (x := z)
    revert aa
    refine qM hR ?_
    refine qX hR ?_
    refine qX hR ?_
    refine qX hR ?_
    intro aa hS
    refine sB (Bstore hS hR rfl rfl (by rfl) info80 (by rfl) pkQ (by rfl) (Nat.le_of_ble_eq_true rfl) ?_); clear hR; intro ww hR
    revert aa
    refine qN hR ?_
    refine qN hR ?_
    intro aa hS
    refine wpList_nil ?_
    refine hK1060 _ _ ?_
    refine wp_seq_k ?_; intro K1061 hK1061
    refine wp_region_lit ?_
    revert aa
    refine qM hR ?_
    refine qM hR ?_
    refine qA hR rfl (fun _ hS => Yld.neq hS rfl rfl) ?_
    refine qB (t := 98) false rfl (by simp) ?_
    intro aa hS
    refine wpList_nil ?_
    refine hK1061 _ _ ?_
    refine condF hS rfl ?_
    refine wp_skip ?_
    refine hK1054 _ _ ?_
    refine wp_seq_k ?_; intro K1062 hK1062
    refine wp_region_lit ?_
    revert aa
    refine qM hR ?_
    refine qM hR ?_
    refine qA hR rfl (fun _ hS => Yld.neq hS rfl rfl) ?_
    refine qB (t := 101) false rfl (by simp) ?_
    refine qM hR ?_
    refine qMg hR ?_
    intro aa hS
    refine sAg hS hR rfl rfl (Yld.loadAgg hS rfl Try.underlying80 rfl info80 rdsQ5 (by rfl)) (by decide) ?_; clear hS; intro aa hS
    refine sAg hS hR rfl rfl (Yld.loadAgg hS rfl Try.underlying30 rfl info30 rdsQ3 (by rfl)) (by decide) ?_; clear hS; intro aa hS
    refine sBg hS rfl rfl (Bcall hS rfl Try.call38 (agrees31_ok (T := (clsN T z)) (q := r2) (k := s0) (a := a) (z := z) hF2 h2 h4 ha ((hR.pk (r := refS _ _ _) pkQ).pk (r := sourceA _ b _ _ _) pkQ)) (by decide) ?_); clear hS; intro aa ww vv hS hp
    clear hR
    obtain ⟨rfl, hR⟩ := hp
    revert aa
    refine qAg hR rfl rfl rfl (fun _ hS => Yld.not hS rfl) ?_
    refine qB (t := 107) false rfl (by rfl) ?_
    refine qA hR rfl (fun _ hS => Yld.pickF hS rfl rfl) ?_
    intro aa hS
    refine wpList_nil ?_
    refine hK1062 _ _ ?_
    refine condF hS rfl ?_
    refine wp_skip ?_
    refine hK1050 _ _ ?_
    refine wp_region_lit ?_
    refine sA hS hR adQ (by decide) ?_; clear hS; intro aa hS
    revert aa
    refine qM hR ?_
    intro aa hS
    refine wpList_nil ?_
    try dsimp only [lay, List.set] at hR
    refine ⟨(k + 1, clsN T z, r2), ?_, ?_, hS.le (Le.cons rfl (Le.nilapp (Le.cons rfl (Le.cons rfl (Le.cons rfl (Le.cons rfl (Le.cons rfl (Le.nil _)))))))), hR.sub (Ex.take pkQ (Ex.take pkQ (Ex.take pkQ (Ex.nilapp exQ))))⟩
    ·
     dsimp only; exact ⟨by omega, hF2⟩
    ·
     dsimp only; omega
  refine wp_seq_k ?_; intro K1063 hK1063
  refine wp_region_lit ?_
  revert aa
  refine qA hR rfl (fun _ hS => Yld.fieldAddr hS rfl 0 Try.underlying30 rfl rfl info5 (by decide)) ?_
  refine qA hR rfl (fun _ hS => Yld.load1 hS rfl Try.underlying5 rfl rdQ) ?_
  refine qA hR rfl (fun _ hS => Yld.lss hS rfl rfl) ?_
  intro aa hS
  refine wpList_nil ?_
  refine hK1063 _ _ ?_
  refine hS.splitB (t := 52) rfl ?_ ?_ <;> clear hS
  ·
   intro hg hS
   refine condT hS rfl ?_
   refine drawn (by kernel_rfl) hR (Ex.of_pk (r := blk bb12 _ _) pkQ) ?_; clear hR; intro ww hR hR0
   revert aa
   refine eA 0 rfl (by kernel_rfl) (fun _ _ _ h => h) hR0 rfl (fun _ hS => Yld.fieldAddr hS rfl 1 Try.underlying30 rfl rfl info28 (by decide)) ?_
   refine eA 3 rfl (by kernel_rfl) (fun _ _ _ h => h) hR0 rfl (fun _ hS => Yld.fieldAddr hS rfl 2 Try.underlying30 rfl rfl info3 (by decide)) ?_
   refine eA 5 rfl (by kernel_rfl) (fun _ _ _ h => h) hR0 rfl (fun _ hS => Yld.move hS rfl) ?_
   intro aa hS
   refine dTwo (i := 1) (j := 4) (by kernel_rfl) ?_ ?_
   ·
    refine dop rfl (BA hS hR (Yld.load1 hS rfl Try.underlying28 rfl rdQ) (by decide) ?_); clear hS; intro aa hS; refine ⟨hR0, ?_⟩
    revert aa
    refine eA 2 rfl (by kernel_rfl) (fun _ _ _ h => h) hR0 rfl (fun _ hS => by first | exact Yld.rem64 hS rfl rfl (by omega) | exact Yld.rem hS rfl rfl (by omega)) ?_
    intro aa hS
    refine dOne (i := 4) (by kernel_rfl) ?_
    refine dop rfl (BA hS hR (Yld.load1 hS rfl Try.underlying3 rfl rdQ) (by decide) ?_); clear hS; intro aa hS; refine ⟨hR0, ?_⟩
    revert aa
    refine eA 7 rfl (by kernel_rfl) (fun _ _ _ h => h) hR0 rfl (fun _ hS => Yld.fieldAddr hS rfl 1 Try.underlying30 rfl rfl info28 (by decide)) ?_
    intro aa hS
    refine dOne (i := 6) (by kernel_rfl) ?_
    refine dop rfl (Bcall hS rfl Try.call30 (modulo_ok (n := s2) (m := (S : Int)) (by omega) hR) (by decide) ?_); clear hS; intro aa ww vv hS hp
    clear hR hR0
    obtain ⟨rfl, hR⟩ := hp
    refine dnext (hR.sub exQ) ?_; intro hR0
    refine dOne (i := 8) (by kernel_rfl) ?_
    refine dop rfl (Bstore hS hR rfl rfl (by rfl) info28 (by rfl) pkQ (by rfl) (Nat.le_of_ble_eq_true rfl) ?_); clear hR hR0; intro ww hR
    refine dnext (hR.sub exQ) ?_; intro hR0
    revert aa
    refine eA 9 rfl (by kernel_rfl) (fun _ _ _ h => h) hR0 rfl (fun _ hS => Yld.fieldAddr hS rfl 2 Try.underlying30 rfl rfl info3 (by decide)) ?_
    intro aa hS
    refine dOne (i := 10) (by kernel_rfl) ?_
    refine dop rfl (Bstore hS hR rfl rfl (by rfl) info3 (by rfl) pkQ (by rfl) (Nat.le_of_ble_eq_true rfl) ?_); clear hR hR0; intro ww hR
    refine dnext (hR.sub exQ) ?_; intro hR0
    refine wpAnyH_done (by kernel_rfl) ?_ _; clear hR0
    try dsimp only [lay, List.set] at hR
    exact tail1052 (s1 % 8) (s2 % (S : Int)) (by omega) _ _ (hS.le (Le.cons rfl (Le.cons rfl (Le.cons rfl (Le.cons rfl (Le.cons rfl (Le.cons rfl (Le.cons rfl (Le.nil _))))))))) (hR.sub exQ)
   ·
    refine dop rfl (BA hS hR (Yld.load1 hS rfl Try.underlying3 rfl rdQ) (by decide) ?_); clear hS; intro aa hS; refine ⟨hR0, ?_⟩
    refine dTwo (i := 1) (j := 6) (by kernel_rfl) ?_ ?_
    ·
     refine dop rfl (BA hS hR (Yld.load1 hS rfl Try.underlying28 rfl rdQ) (by decide) ?_); clear hS; intro aa hS; refine ⟨hR0, ?_⟩
     revert aa
     refine eA 2 rfl (by kernel_rfl) (fun _ _ _ h => h) hR0 rfl (fun _ hS => by first | exact Yld.rem64 hS rfl rfl (by omega) | exact Yld.rem hS rfl rfl (by omega)) ?_
     refine eA 7 rfl (by kernel_rfl) (fun _ _ _ h => h) hR0 rfl (fun _ hS => Yld.fieldAddr hS rfl 1 Try.underlying30 rfl rfl info28 (by decide)) ?_
     intro aa hS
     refine dOne (i := 6) (by kernel_rfl) ?_
     refine dop rfl (Bcall hS rfl Try.call30 (modulo_ok (n := s2) (m := (S : Int)) (by omega) hR) (by decide) ?_); clear hS; intro aa ww vv hS hp
     clear hR hR0
     obtain ⟨rfl, hR⟩ := hp
     refine dnext (hR.sub exQ) ?_; intro hR0
     refine dOne (i := 8) (by kernel_rfl) ?_
     refine dop rfl (Bstore hS hR rfl rfl (by rfl) info28 (by rfl) pkQ (by rfl) (Nat.le_of_ble_eq_true rfl) ?_); clear hR hR0; intro ww hR
     refine dnext (hR.sub exQ) ?_; intro hR0
     revert aa
     refine eA 9 rfl (by kernel_rfl) (fun _ _ _ h => h) hR0 rfl (fun _ hS => Yld.fieldAddr hS rfl 2 Try.underlying30 rfl rfl info3 (by decide)) ?_
     intro aa hS
     refine dOne (i := 10) (by kernel_rfl) ?_
     refine dop rfl (Bstore hS hR rfl rfl (by rfl) info3 (by rfl) pkQ (by rfl) (Nat.le_of_ble_eq_true rfl) ?_); clear hR hR0; intro ww hR
     refine dnext (hR.sub exQ) ?_; intro hR0
     refine wpAnyH_done (by kernel_rfl) ?_ _; clear hR0
     try dsimp only [lay, List.set] at hR
     exact tail1052 (s1 % 8) (s2 % (S : Int)) (by omega) _ _ (hS.le (Le.cons rfl (Le.cons rfl (Le.cons rfl (Le.cons rfl (Le.cons rfl (Le.cons rfl (Le.cons rfl (Le.nil _))))))))) (hR.sub exQ)
    ·
     refine dop rfl (Bcall hS rfl Try.call30 (modulo_ok (n := s2) (m := (S : Int)) (by omega) hR) (by decide) ?_); clear hS; intro aa ww vv hS hp
     clear hR hR0
     obtain ⟨rfl, hR⟩ := hp
     refine dnext (hR.sub exQ) ?_; intro hR0
     refine dOne (i := 1) (by kernel_rfl) ?_
     refine dop rfl (BA hS hR (Yld.load1 hS rfl Try.underlying28 rfl rdQ) (by decide) ?_); clear hS; intro aa hS; refine ⟨hR0, ?_⟩
     revert aa
     refine eA 2 rfl (by kernel_rfl) (fun _ _ _ h => h) hR0 rfl (fun _ hS => by first | exact Yld.rem64 hS rfl rfl (by omega) | exact Yld.rem hS rfl rfl (by omega)) ?_
     refine eA 7 rfl (by kernel_rfl) (fun _ _ _ h => h) hR0 rfl (fun _ hS => Yld.fieldAddr hS rfl 1 Try.underlying30 rfl rfl info28 (by decide)) ?_
     intro aa hS
     refine dOne (i := 8) (by kernel_rfl) ?_
     refine dop rfl (Bstore hS hR rfl rfl (by rfl) info28 (by rfl) pkQ (by rfl) (Nat.le_of_ble_eq_true rfl) ?_); clear hR hR0; intro ww hR
     refine dnext (hR.sub exQ) ?_; intro hR0
     revert aa
     refine eA 9 rfl (by kernel_rfl) (fun _ _ _ h => h) hR0 rfl (fun _ hS => Yld.fieldAddr hS rfl 2 Try.underlying30 rfl rfl info3 (by decide)) ?_
     intro aa hS
     refine dOne (i := 10) (by kernel_rfl) ?_
     refine dop rfl (Bstore hS hR rfl rfl (by rfl) info3 (by rfl) pkQ (by rfl) (Nat.le_of_ble_eq_true rfl) ?_); clear hR hR0; intro ww hR
     refine dnext (hR.sub exQ) ?_; intro hR0
     refine wpAnyH_done (by kernel_rfl) ?_ _; clear hR0
     try dsimp only [lay, List.set] at hR
     exact tail1052 (s1 % 8) (s2 % (S : Int)) (by omega) _ _ (hS.le (Le.cons rfl (Le.cons rfl (Le.cons rfl (Le.cons rfl (Le.cons rfl (Le.cons rfl (Le.cons rfl (Le.nil _))))))))) (hR.sub exQ)
  ·
   intro hg hS
   refine condF hS rfl ?_
   refine wp_skip ?_
   try dsimp only [lay, List.set] at hR
   exact tail1052 s1 s2 ⟨hs1, hs1b⟩ _ _ (hS.le (Le.cons rfl (Le.cons rfl (Le.cons rfl (Le.cons rfl (Le.cons rfl (Le.cons rfl (Le.cons rfl (Le.nil _))))))))) (hR.sub exQ)
 ·
  intro hg hS
  have hF := hI.2
  refine condF hS rfl ?_
  refine wp_exit ?_
  refine hK1045 _ _ ?_
  refine wp_seq_k ?_; intro K1064 hK1064
  refine wp_region_lit ?_
  revert aa
  refine qM hR ?_
  intro aa hS
  refine sA hS hR (Yld.loadAgg hS rfl Try.underlying80 rfl info80 rdsQ5 (by rfl)) (by decide) ?_; clear hS; intro aa hS
  refine sA hS hR (Yld.build hS rfl (bld30_)) (by decide) ?_; clear hS; intro aa hS
  refine sB (Bcall hS rfl Try.call38 (agrees31_ok (T := T) (q := r) (k := 0) (a := 0) (z := 0) hF h2 h4 (by omega) ((hR.pk (r := refS _ _ _) pkQ).pk (r := sourceA _ b _ _ _) pkQ)) (by decide) ?_); clear hS; intro aa ww vv hS hp
  clear hR
  obtain ⟨rfl, hR⟩ := hp
  revert aa
  refine qB (t := 113) true rfl (by rfl) ?_
  refine qM hR ?_
  refine qMg hR ?_
  intro aa hS
  refine sAg hS hR rfl rfl (Yld.loadAgg hS rfl Try.underlying80 rfl info80 rdsQ5 (by rfl)) (by decide) ?_; clear hS; intro aa hS
  refine sAg hS hR rfl rfl (Yld.build hS rfl (bld30_1_2 _ _)) (by decide) ?_; clear hS; intro aa hS
  refine sBg hS rfl rfl (Bcall hS rfl Try.call38 (agrees31_ok (T := T) (q := r) (k := 0) (a := 4294967295) (z := -1) hF h2 h4 (by omega) ((hR.pk (r := refS _ _ _) pkQ).pk (r := sourceA _ b _ _ _) pkQ)) (by decide) ?_); clear hS; intro aa ww vv hS hp
  clear hR
  obtain ⟨rfl, hR⟩ := hp
  revert aa
  refine qB (t := 118) true rfl (by rfl) ?_
  refine qA hR rfl (fun _ hS => Yld.pickT hS rfl rfl) ?_
  refine qN hR ?_
  intro aa hS
  refine wpList_nil ?_
  refine hK1064 _ _ ?_
  refine wp_ret ?_
  repeat first | with_reducible refine thenR ?_ | with_reducible refine blockR ?_ | with_reducible refine scopeR ?_
  refine ret1 (fn := Try.f15) (e := .ret) (.inl rfl) Try.results15 hS hR ⟨_, (.tmp rfl), ?_⟩
  exact ⟨rfl, (hR.sub exQ)⟩
theorem tells31_ok {m i : Int} {n c : Nat} {q : Option Addr} {l : List HP} {w : World} (hrow : ∀ k, k < n → ∃ ba ia s0 s1 s2, q = some ⟨ba, ia, none⟩ ∧ 0 ≤ s0 ∧ s0 ≤ 255 ∧ 0 ≤ s1 ∧ s1 ≤ 4294967295 ∧ Rds l ba (ia + k * 3) [.int .u8 s0, .int .u32 s1, .int .i64 s2]) (hn : n ≤ 9223372036854775806) (hR : Sep l w) : CallR Try.prog 15 [.int .i64 m, .int .i64 i, .slice q n c] w (fun v w' => v = .bool true ∧ Sep l w') := by
 by_cases hx : 1 ≤ m ∧ m ≤ 4096 ∧ 1 ≤ i ∧ i ≤ 64
 ·
  obtain ⟨S, rfl⟩ : ∃ y : Nat, m = (y : Int) := ⟨m.toNat, by omega⟩
  obtain ⟨lim, rfl⟩ : ∃ y : Nat, i = (y : Int) := ⟨i.toNat, by omega⟩
  exact tells31_yes hrow hn (by omega) (by omega) (by omega) (by omega) hR
 ·
  exact tells31_no hx hR
end Go.Proofs.Ythjfclljjcpikaa.Sx
