/-
 
-/
import Derived.Test.YthjfclljjcpikaaRfB
namespace Go.Proofs.Ythjfclljjcpikaa.Sx
open Go
set_option linter.unusedVariables false
set_option linter.unusedSimpArgs false



set_option maxHeartbeats 1000000 in
set_option maxRecDepth 20000 in
theorem rfClose_bad {S lim : Nat} {q : RQ} {T : So} {l : List HP} {w : World} {x : Int} (hx : ¬ (0 ≤ x ∧ x < S)) (hF : SF S lim T) (h2 : S ≤ 4096) (hR : Sep (refS rt q T :: l) w) : CallR Try.prog 37 [refV S lim q T, .int .i64 x] w (fun v w' => ∃ q, v = .tuple [refV S lim q T, .int .u32 0, .int .i64 2].toArray ∧ Sep (refS rt q T :: l) w') := by
 refine enter Try.func37 rfl Try.ntmps37 (Nat.le_of_ble_eq_true rfl) ?_; intro aa hS
 have hB := hF.rb h2
 have hBo := hB.o
 have hBr := hB.r
 have hBf := hB.f
 refine wp_seq_k ?_; intro K880 hK880
 refine wp_region_lit ?_
 refine sB (Bbox hS hR rfl (by rfl) (by decide) ?_); clear hS hR; intro aa ww bb2 hS hR
 refine sB (Balloc hS hR info80 (by rfl) (by rfl) (by decide) ?_); clear hS hR; intro aa ww bb4 hS hR
 revert aa
 refine qN hR ?_
 refine qN hR ?_
 intro aa hS
 refine wpList_nil ?_
 refine hK880 _ _ ?_
 refine wp_seq_k ?_; intro K881 hK881
 refine wp_seq_k ?_; intro K882 hK882
 refine wp_region_lit ?_
 revert aa
 refine qM hR ?_
 refine qA hR rfl (fun _ hS => Yld.lss hS rfl rfl) ?_
 refine qM hR ?_
 intro aa hS
 refine hS.splitB (t := 17) rfl ?_ ?_ <;> clear hS
 ·
  intro hg hS
  revert aa
  refine qZ ?_
  refine qZ ?_
  refine qZ ?_
  refine qZ ?_
  refine qA hR rfl (fun _ hS => Yld.pickT hS rfl rfl) ?_
  intro aa hS
  refine wpList_nil ?_
  refine hK882 _ _ ?_
  refine condT hS rfl ?_
  refine wp_seq_k ?_; intro K883 hK883
  refine wp_region_lit ?_
  refine sA hS hR (Yld.loadAgg hS rfl Try.underlying80 rfl info80 rdsQ5 (by rfl)) (by decide) ?_; clear hS; intro aa hS
  refine sB (Bstore hS hR rfl rfl (by rfl) info80 (by rfl) pkQ (by rfl) (Nat.le_of_ble_eq_true rfl) ?_); clear hR; intro ww hR
  revert aa
  refine qN hR ?_
  refine qN hR ?_
  intro aa hS
  refine wpList_nil ?_
  refine hK883 _ _ ?_
  refine wp_ret ?_
  repeat first | with_reducible refine thenR ?_ | with_reducible refine blockR ?_ | with_reducible refine scopeR ?_
  refine retN (fn := Try.f37) (e := .ret) (.inl rfl) Try.results37 hS hR ⟨_, .cons (.agg rfl Try.underlying80 rfl info80 (Rds.cons (Rd.blk pkQ (by rfl)) (Rds.cons (Rd.blk pkQ (by rfl)) (Rds.cons (Rd.blk pkQ (by rfl)) (Rds.cons (Rd.blk pkQ (by rfl)) (Rds.cons (Rd.blk pkQ (by rfl)) (Rds.nil)))))) (by rfl)) (.cons (.tmp rfl) (.cons (.tmp rfl) (.nil))), rfl, ?_⟩
  try dsimp only [lay, List.set] at hR
  exact ⟨q, rfl, (hR.sub exQ)⟩
 ·
  intro hg hS
  revert aa
  refine qMg hR ?_
  refine qAg hR rfl rfl rfl (fun _ hS => Yld.fieldAddr hS rfl 0 Try.underlying80 rfl rfl info3 (by decide)) ?_
  refine qAg hR rfl rfl rfl (fun _ hS => Yld.load1 hS rfl Try.underlying3 rfl rdQ) ?_
  refine qAg hR rfl rfl rfl (fun _ hS => Yld.geq hS rfl rfl) ?_
  refine qA hR rfl (fun _ hS => Yld.pickF hS rfl rfl) ?_
  intro aa hS
  refine wpList_nil ?_
  refine hK882 _ _ ?_
  refine hS.splitB (t := 22) rfl ?_ ?_ <;> clear hS
  ·
   intro hg hS
   refine condT hS rfl ?_
   refine wp_seq_k ?_; intro K884 hK884
   refine wp_region_lit ?_
   refine sA hS hR (Yld.loadAgg hS rfl Try.underlying80 rfl info80 rdsQ5 (by rfl)) (by decide) ?_; clear hS; intro aa hS
   refine sB (Bstore hS hR rfl rfl (by rfl) info80 (by rfl) pkQ (by rfl) (Nat.le_of_ble_eq_true rfl) ?_); clear hR; intro ww hR
   revert aa
   refine qN hR ?_
   refine qN hR ?_
   intro aa hS
   refine wpList_nil ?_
   refine hK884 _ _ ?_
   refine wp_ret ?_
   repeat first | with_reducible refine thenR ?_ | with_reducible refine blockR ?_ | with_reducible refine scopeR ?_
   refine retN (fn := Try.f37) (e := .ret) (.inl rfl) Try.results37 hS hR ⟨_, .cons (.agg rfl Try.underlying80 rfl info80 (Rds.cons (Rd.blk pkQ (by rfl)) (Rds.cons (Rd.blk pkQ (by rfl)) (Rds.cons (Rd.blk pkQ (by rfl)) (Rds.cons (Rd.blk pkQ (by rfl)) (Rds.cons (Rd.blk pkQ (by rfl)) (Rds.nil)))))) (by rfl)) (.cons (.tmp rfl) (.cons (.tmp rfl) (.nil))), rfl, ?_⟩
   try dsimp only [lay, List.set] at hR
   exact ⟨q, rfl, (hR.sub exQ)⟩
  ·
   intro hg hS
   omega
set_option maxHeartbeats 1000000 in
set_option maxRecDepth 20000 in
theorem rfClose_none {S lim : Nat} {q : RQ} {T : So} {l : List HP} {w : World} {s : Nat} (hs : s < S) (hn : ofO T.O (s : Int) = none) (hF : SF S lim T) (h2 : S ≤ 4096) (hR : Sep (refS rt q T :: l) w) : CallR Try.prog 37 [refV S lim q T, .int .i64 (s : Int)] w (fun v w' => ∃ q, v = .tuple [refV S lim q T, .int .u32 0, .int .i64 6].toArray ∧ Sep (refS rt q T :: l) w') := by
 refine enter Try.func37 rfl Try.ntmps37 (Nat.le_of_ble_eq_true rfl) ?_; intro aa hS
 have hB := hF.rb h2
 have hBo := hB.o
 have hBr := hB.r
 have hBf := hB.f
 refine wp_seq_k ?_; intro K885 hK885
 refine wp_region_lit ?_
 refine sB (Bbox hS hR rfl (by rfl) (by decide) ?_); clear hS hR; intro aa ww bb2 hS hR
 refine sB (Balloc hS hR info80 (by rfl) (by rfl) (by decide) ?_); clear hS hR; intro aa ww bb4 hS hR
 revert aa
 refine qN hR ?_
 refine qN hR ?_
 intro aa hS
 refine wpList_nil ?_
 refine hK885 _ _ ?_
 refine wp_seq_k ?_; intro K886 hK886
 refine wp_seq_k ?_; intro K887 hK887
 refine wp_region_lit ?_
 revert aa
 refine qM hR ?_
 refine qA hR rfl (fun _ hS => Yld.lss hS rfl rfl) ?_
 refine qM hR ?_
 refine qB (t := 17) false rfl (by exact decide_eq_false (by omega)) ?_
 refine qMg hR ?_
 refine qAg hR rfl rfl rfl (fun _ hS => Yld.fieldAddr hS rfl 0 Try.underlying80 rfl rfl info3 (by decide)) ?_
 refine qAg hR rfl rfl rfl (fun _ hS => Yld.load1 hS rfl Try.underlying3 rfl rdQ) ?_
 refine qAg hR rfl rfl rfl (fun _ hS => Yld.geq hS rfl rfl) ?_
 refine qB (t := 21) false rfl (by exact decide_eq_false (by omega)) ?_
 refine qA hR rfl (fun _ hS => Yld.pickF hS rfl rfl) ?_
 intro aa hS
 refine wpList_nil ?_
 refine hK887 _ _ ?_
 refine condF hS rfl ?_
 refine wp_skip ?_
 refine hK886 _ _ ?_
 refine wp_seq_k ?_; intro K888 hK888
 refine wp_region_lit ?_
 refine sA hS hR (Yld.loadAgg hS rfl Try.underlying80 rfl info80 rdsQ5 (by rfl)) (by decide) ?_; clear hS; intro aa hS
 revert aa
 refine qM hR ?_
 intro aa hS
 refine sB (Bcall hS rfl Try.call60 (rfOf_ok (z := (s : Int)) hB (hR.pk (r := refS _ _ _) pkQ)) (by decide) ?_); clear hS; intro aa ww vv hS hp
 clear hR
 obtain ⟨rfl, hR⟩ := hp
 rw [hn] at hS
 dsimp only [Option.getD, Option.isSome] at hS
 revert aa
 refine qM hR ?_
 refine qX hR ?_
 refine qX hR ?_
 refine qB (t := 29) false rfl (by rfl) ?_
 refine qN hR ?_
 refine qN hR ?_
 intro aa hS
 refine wpList_nil ?_
 refine hK888 _ _ ?_
 refine wp_seq_k ?_; intro K889 hK889
 refine wp_seq_k ?_; intro K890 hK890
 refine wp_region_lit ?_
 revert aa
 refine qM hR ?_
 refine qA hR rfl (fun _ hS => Yld.not hS rfl) ?_
 intro aa hS
 refine wpList_nil ?_
 refine hK890 _ _ ?_
 refine condT hS rfl ?_
 refine wp_seq_k ?_; intro K891 hK891
 refine wp_region_lit ?_
 refine sA hS hR (Yld.loadAgg hS rfl Try.underlying80 rfl info80 rdsQ5 (by rfl)) (by decide) ?_; clear hS; intro aa hS
 refine sB (Bstore hS hR rfl rfl (by rfl) info80 (by rfl) pkQ (by rfl) (Nat.le_of_ble_eq_true rfl) ?_); clear hR; intro ww hR
 revert aa
 refine qN hR ?_
 refine qN hR ?_
 intro aa hS
 refine wpList_nil ?_
 refine hK891 _ _ ?_
 refine wp_ret ?_
 repeat first | with_reducible refine thenR ?_ | with_reducible refine blockR ?_ | with_reducible refine scopeR ?_
 refine retN (fn := Try.f37) (e := .ret) (.inl rfl) Try.results37 hS hR ⟨_, .cons (.agg rfl Try.underlying80 rfl info80 (Rds.cons (Rd.blk pkQ (by rfl)) (Rds.cons (Rd.blk pkQ (by rfl)) (Rds.cons (Rd.blk pkQ (by rfl)) (Rds.cons (Rd.blk pkQ (by rfl)) (Rds.cons (Rd.blk pkQ (by rfl)) (Rds.nil)))))) (by rfl)) (.cons (.tmp rfl) (.cons (.tmp rfl) (.nil))), rfl, ?_⟩
 try dsimp only [lay, List.set] at hR
 exact ⟨q, rfl, (hR.sub exQ)⟩
set_option maxHeartbeats 1000000 in
set_option maxRecDepth 20000 in
theorem rfClose_more {S lim : Nat} {q : RQ} {T : So} {l : List HP} {w : World} {s : Nat} (hs : s < S) {a : Int} (hq : ofO T.O (s : Int) = some a) (he : slO (T.O.filter fun p => decide (p.2 ≠ s)) a ≠ []) (hF : SF S lim T) (h2 : S ≤ 4096) (hR : Sep (refS rt q T :: l) w) : CallR Try.prog 37 [refV S lim q T, .int .i64 (s : Int)] w (fun v w' => ∃ q, v = .tuple [refV S lim q (remO T a s), .int .u32 a, .int .i64 0].toArray ∧ Sep (refS rt q (remO T a s) :: l) w') := by
 refine enter Try.func37 rfl Try.ntmps37 (Nat.le_of_ble_eq_true rfl) ?_; intro aa hS
 have hB := hF.rb h2
 have hBo := hB.o
 have hBr := hB.r
 have hBf := hB.f
 have hpos := List.length_pos_iff.2 he
 refine wp_seq_k ?_; intro K892 hK892
 refine wp_region_lit ?_
 refine sB (Bbox hS hR rfl (by rfl) (by decide) ?_); clear hS hR; intro aa ww bb2 hS hR
 refine sB (Balloc hS hR info80 (by rfl) (by rfl) (by decide) ?_); clear hS hR; intro aa ww bb4 hS hR
 revert aa
 refine qN hR ?_
 refine qN hR ?_
 intro aa hS
 refine wpList_nil ?_
 refine hK892 _ _ ?_
 refine wp_seq_k ?_; intro K893 hK893
 refine wp_seq_k ?_; intro K894 hK894
 refine wp_region_lit ?_
 revert aa
 refine qM hR ?_
 refine qA hR rfl (fun _ hS => Yld.lss hS rfl rfl) ?_
 refine qM hR ?_
 refine qB (t := 17) false rfl (by exact decide_eq_false (by omega)) ?_
 refine qMg hR ?_
 refine qAg hR rfl rfl rfl (fun _ hS => Yld.fieldAddr hS rfl 0 Try.underlying80 rfl rfl info3 (by decide)) ?_
 refine qAg hR rfl rfl rfl (fun _ hS => Yld.load1 hS rfl Try.underlying3 rfl rdQ) ?_
 refine qAg hR rfl rfl rfl (fun _ hS => Yld.geq hS rfl rfl) ?_
 refine qB (t := 21) false rfl (by exact decide_eq_false (by omega)) ?_
 refine qA hR rfl (fun _ hS => Yld.pickF hS rfl rfl) ?_
 intro aa hS
 refine wpList_nil ?_
 refine hK894 _ _ ?_
 refine condF hS rfl ?_
 refine wp_skip ?_
 refine hK893 _ _ ?_
 refine wp_seq_k ?_; intro K895 hK895
 refine wp_region_lit ?_
 refine sA hS hR (Yld.loadAgg hS rfl Try.underlying80 rfl info80 rdsQ5 (by rfl)) (by decide) ?_; clear hS; intro aa hS
 revert aa
 refine qM hR ?_
 intro aa hS
 refine sB (Bcall hS rfl Try.call60 (rfOf_ok (z := (s : Int)) hB (hR.pk (r := refS _ _ _) pkQ)) (by decide) ?_); clear hS; intro aa ww vv hS hp
 clear hR
 obtain ⟨rfl, hR⟩ := hp
 rw [hq] at hS
 dsimp only [Option.getD, Option.isSome] at hS
 revert aa
 refine qM hR ?_
 refine qX hR ?_
 refine qX hR ?_
 refine qB (t := 29) true rfl (by rfl) ?_
 refine qN hR ?_
 refine qN hR ?_
 intro aa hS
 refine wpList_nil ?_
 refine hK895 _ _ ?_
 refine wp_seq_k ?_; intro K896 hK896
 refine wp_seq_k ?_; intro K897 hK897
 refine wp_region_lit ?_
 revert aa
 refine qM hR ?_
 refine qA hR rfl (fun _ hS => Yld.not hS rfl) ?_
 intro aa hS
 refine wpList_nil ?_
 refine hK897 _ _ ?_
 refine condF hS rfl ?_
 refine wp_skip ?_
 refine hK896 _ _ ?_
 refine wp_seq_k ?_; intro K898 hK898
 refine wp_region_lit ?_
 revert aa
 refine qN hR ?_
 intro aa hS
 refine wpList_nil ?_
 refine hK898 _ _ ?_
 refine wp_seq_k ?_; intro K899 hK899
 refine wp_seq_k ?_; intro K900 hK900
 refine wp_region_lit ?_
 revert aa
 refine qN hR ?_
 intro aa hS
 refine wpList_nil ?_
 refine hK900 _ _ ?_
 refine wp_block ?_
 replace hR := (hR.pk (r := refS _ _ _) pkQ).refE
 replace hR := hR.slsNil (T := 130) (sz := 2)
 replace hR := hR.pk (r := sls none 0 0 130 2 []) pkQ
 refine loopI (X := Nat × Option Addr × Nat) [(1, _), (2, _), (4, _), (5, _), (6, _), (7, _)] (fun x => [(9, .slice x.2.1 ((T.O.take x.1).filter fun p => decide (p.2 ≠ s)).length x.2.2), (10, .int .i64 (x.1 : Int))]) (fun x => [sls x.2.1 ((T.O.take x.1).filter fun p => decide (p.2 ≠ s)).length x.2.2 130 2 (((T.O.take x.1).filter fun p => decide (p.2 ≠ s)).flatMap eO)]) _ (fun x => x.1 ≤ T.O.length) (fun x => T.O.length - x.1) (0, none, 0) (Nat.zero_le _) (hS.le (Le.cons rfl (Le.cons rfl (Le.nilapp (Le.cons rfl (Le.cons rfl (Le.cons rfl (Le.cons rfl (Le.cons rfl (Le.cons rfl (Le.nil _))))))))))) hR ?_
 clear hS hR; rintro ⟨i, r0, c0⟩ aa ww hI hS hR; dsimp only [List.cons_append, List.nil_append] at hI hS hR
 refine wp_seq_k ?_; intro K902 hK902
 refine wp_seq_k ?_; intro K903 hK903
 refine wp_region_lit ?_
 revert aa
 refine qM hR ?_
 refine qA hR rfl (fun _ hS => Yld.fieldAddr hS rfl 2 Try.underlying80 rfl rfl info77 (by decide)) ?_
 refine qA hR rfl (fun _ hS => Yld.load1 hS rfl Try.underlying77 rfl rdQ) ?_
 refine qA hR rfl (fun _ hS => Yld.len hS rfl Try.underlying77) ?_
 refine qA hR rfl (fun _ hS => Yld.lss hS rfl rfl) ?_
 intro aa hS
 refine wpList_nil ?_
 refine hK903 _ _ ?_
 refine hS.splitB (t := 37) rfl ?_ ?_ <;> clear hS
 ·
  intro hg hS
  obtain ⟨⟨pa, ps⟩, hpe⟩ : ∃ y : Int × Nat, T.O[i]'(by omega) = y := ⟨_, rfl⟩
  have hfn := fil_next (L := T.O) (P := fun p => decide (p.2 ≠ s)) (i := i) (by omega)
  rw [hpe] at hfn
  have hfl : ((T.O.take i).filter fun p => decide (p.2 ≠ s)).length ≤ i := Nat.le_trans (List.length_filter_le _ _) (by rw [List.length_take]; omega)
  refine condT hS rfl ?_
  refine wp_skip ?_
  refine hK902 _ _ ?_
  refine wp_seq_k ?_; intro K904 hK904
  refine wp_block ?_
  refine wp_seq_k ?_; intro K905 hK905
  refine wp_region_lit ?_
  revert aa
  refine qA hR rfl (fun _ hS => Yld.fieldAddr hS rfl 2 Try.underlying80 rfl rfl info77 (by decide)) ?_
  refine qA hR rfl (fun _ hS => Yld.load1 hS rfl Try.underlying77 rfl rdQ) ?_
  refine qM hR ?_
  refine qA hR rfl (fun _ hS => ilQ 2 (i) Try.underlying77 info130) ?_
  refine qA hR rfl (fun _ hS => Yld.fieldAddr hS rfl 1 Try.underlying130 rfl rfl info3 (by decide)) ?_
  intro aa hS
  refine sA hS hR (Yld.load1 hS rfl Try.underlying3 rfl rdQ) (by decide) ?_; clear hS; intro aa hS
  rw [hpe] at hS
  revert aa
  refine qM hR ?_
  refine qA hR rfl (fun _ hS => Yld.neq hS rfl rfl) ?_
  intro aa hS
  refine wpList_nil ?_
  refine hK905 _ _ ?_
  refine hS.splitB (t := 47) rfl ?_ ?_ <;> clear hS
  ·
   intro hg hS
   rw [if_pos (decide_eq_true (by omega : ps ≠ s))] at hfn
   refine condT hS rfl ?_
   refine wp_region_lit ?_
   revert aa
   refine qM hR ?_
   refine qA hR rfl (fun _ hS => Yld.fieldAddr hS rfl 2 Try.underlying80 rfl rfl info77 (by decide)) ?_
   refine qA hR rfl (fun _ hS => Yld.load1 hS rfl Try.underlying77 rfl rdQ) ?_
   refine qM hR ?_
   refine qA hR rfl (fun _ hS => ilQ 2 (i) Try.underlying77 info130) ?_
   intro aa hS
   refine sA hS hR (Yld.loadAgg hS rfl Try.underlying130 rfl info130 rdsQ2 (by rfl)) (by decide) ?_; clear hS; intro aa hS
   replace hS := hS.say (t := 53) (.agg [.int .u32 pa, .int .i64 (ps : Int)].toArray) rfl (by rw [hpe])
   refine sB (BbuildSlice hS hR rfl (bls77_1_0 _ _) (by decide) ?_); clear hS hR; intro aa ww bb54 hS hR
   refine sB (BappendR (sz := 2) hS hR rfl rfl Try.underlying77 info130 rfl rfl (by rfl) pkQ (XC.one ((pa, ps)) pkQ (by rfl) rfl) (by intro _; rfl) (by show (_ + _) * 16 ≤ _; first | omega | (simp only [List.length_take, List.length_append, List.length_drop, List.length_cons, List.length_nil, List.length_map]; omega)) (by first | omega | (simp only [List.length_take, List.length_append, List.length_drop, List.length_cons, List.length_nil, List.length_map]; omega)) (by first | rfl | (simp; done) | (simp; omega)) (by decide) ?_); clear hS hR; intro aa ww r55 c55 hS hR
   rw [← hfn] at hS hR
   revert aa
   refine qN hR ?_
   intro aa hS
   refine wpList_nil ?_
   refine hK904 _ _ ?_
   refine wp_region_lit ?_
   revert aa
   refine qM hR ?_
   intro aa hS
   refine sA hS hR adQ (by decide) ?_; clear hS; intro aa hS
   revert aa
   refine qN hR ?_
   intro aa hS
   refine wpList_nil ?_
   
   refine ⟨(i + 1, _, _), ?_, ?_, hS.le (Le.cons rfl (Le.cons rfl (Le.nilapp (Le.cons rfl (Le.cons rfl (Le.cons rfl (Le.cons rfl (Le.cons rfl (Le.cons rfl (Le.nil _)))))))))), hR.sub (Ex.take pkQ (Ex.nilapp exQ))⟩
   ·
    dsimp only; omega
   ·
    dsimp only; omega
  ·
   intro hg hS
   rw [if_neg (by simp; omega)] at hfn
   rw [← hfn] at hS hR
   refine condF hS rfl ?_
   refine wp_skip ?_
   refine hK904 _ _ ?_
   refine wp_region_lit ?_
   revert aa
   refine qM hR ?_
   intro aa hS
   refine sA hS hR adQ (by decide) ?_; clear hS; intro aa hS
   revert aa
   refine qN hR ?_
   intro aa hS
   refine wpList_nil ?_
   
   refine ⟨(i + 1, _, _), ?_, ?_, hS.le (Le.cons rfl (Le.cons rfl (Le.nilapp (Le.cons rfl (Le.cons rfl (Le.cons rfl (Le.cons rfl (Le.cons rfl (Le.cons rfl (Le.nil _)))))))))), hR.sub (Ex.take pkQ (Ex.nilapp exQ))⟩
   ·
    dsimp only; omega
   ·
    dsimp only; omega
 ·
  intro hg hS
  rw [List.take_of_length_le (show T.O.length ≤ i by omega)] at hS hR
  refine condF hS rfl ?_
  refine wp_exit ?_
  refine hK899 _ _ ?_
  refine wp_seq_k ?_; intro K906 hK906
  refine wp_region_lit ?_
  revert aa
  refine qM hR ?_
  refine qA hR rfl (fun _ hS => Yld.fieldAddr hS rfl 2 Try.underlying80 rfl rfl info77 (by decide)) ?_
  intro aa hS
  refine sB (Bstore hS hR rfl rfl (by rfl) info77 (by rfl) pkQ (by rfl) (Nat.le_of_ble_eq_true rfl) ?_); clear hR; intro ww hR
  refine wpList_nil ?_
  refine hK906 _ _ ?_
  refine wp_seq_k ?_; intro K907 hK907
  refine wp_seq_k ?_; intro K908 hK908
  refine wp_region_lit ?_
  dsimp only [lay, List.set] at hR
  replace hR := hR.refP (t := rt) (O := (T.O.filter fun p => decide (p.2 ≠ s))) (R := T.R) (A := T.A) (r1 := r0) (c1 := c0) (r2 := q.r2) (c2 := q.c2) (r3 := q.r3) (c3 := q.c3) (n1 := (T.O.filter fun p => decide (p.2 ≠ s)).length) (n2 := T.R.length) (n3 := (cst T.A.free).length) pkQ pkQ pkQ rfl rfl rfl
  have hB2 : RB { O := (T.O.filter fun p => decide (p.2 ≠ s)), R := T.R, A := T.A } := ⟨Nat.le_trans (List.length_filter_le _ _) hBo, hBr, hBf⟩
  refine sA hS hR (Yld.loadAgg hS rfl Try.underlying80 rfl info80 rdsQ5 (by rfl)) (by decide) ?_; clear hS; intro aa hS
  revert aa
  refine qM hR ?_
  intro aa hS
  refine sB (Bcall hS rfl Try.call61 (rfSlots_ok (S := S) (lim := lim) (q := ⟨r0, c0, q.r2, q.c2, q.r3, q.c3⟩) (T := { O := (T.O.filter fun p => decide (p.2 ≠ s)), R := T.R, A := T.A }) (a := a) hB2 (hR.pk (r := refS _ _ _) pkQ)) (by decide) ?_); clear hS; intro aa ww vv hS hp
  clear hR
  obtain ⟨rz, cz, rfl, hR⟩ := hp
  dsimp only at hS hR
  have hcl := cst_len (l := slO (T.O.filter fun p => decide (p.2 ≠ s)) a)
  revert aa
  refine qA hR rfl (fun _ hS => Yld.len hS rfl Try.underlying40) ?_
  refine qA hR rfl (fun _ hS => Yld.gtr hS rfl rfl) ?_
  refine qB (t := 62) true rfl (by exact decide_eq_true (by omega)) ?_
  intro aa hS
  refine wpList_nil ?_
  refine hK908 _ _ ?_
  refine condT hS rfl ?_
  refine wp_seq_k ?_; intro K909 hK909
  refine wp_region_lit ?_
  refine sA hS hR (Yld.loadAgg hS rfl Try.underlying80 rfl info80 rdsQ5 (by rfl)) (by decide) ?_; clear hS; intro aa hS
  revert aa
  refine qM hR ?_
  intro aa hS
  refine sB (Bstore hS hR rfl rfl (by rfl) info80 (by rfl) pkQ (by rfl) (Nat.le_of_ble_eq_true rfl) ?_); clear hR; intro ww hR
  revert aa
  refine qN hR ?_
  refine qN hR ?_
  intro aa hS
  refine wpList_nil ?_
  refine hK909 _ _ ?_
  refine wp_ret ?_
  repeat first | with_reducible refine thenR ?_ | with_reducible refine blockR ?_ | with_reducible refine scopeR ?_
  refine retN (fn := Try.f37) (e := .ret) (.inl rfl) Try.results37 hS hR ⟨_, .cons (.agg rfl Try.underlying80 rfl info80 (Rds.cons (Rd.blk pkQ (by rfl)) (Rds.cons (Rd.blk pkQ (by rfl)) (Rds.cons (Rd.blk pkQ (by rfl)) (Rds.cons (Rd.blk pkQ (by rfl)) (Rds.cons (Rd.blk pkQ (by rfl)) (Rds.nil)))))) (by rfl)) (.cons (.tmp rfl) (.cons (.tmp rfl) (.nil))), rfl, ?_⟩
  try dsimp only [lay, List.set] at hR
  rw [remO_more he]
  exact ⟨⟨r0, c0, q.r2, q.c2, q.r3, q.c3⟩, rfl, (hR.sub exQ)⟩
set_option maxHeartbeats 1000000 in
set_option maxRecDepth 20000 in
theorem rfClose_last {S lim : Nat} {q : RQ} {T : So} {l : List HP} {w : World} {s : Nat} (hs : s < S) {a : Int} {r : Nat} (hq : ofO T.O (s : Int) = some a) (hrc : rcR T.R a = some r) (he : slO (T.O.filter fun p => decide (p.2 ≠ s)) a = []) (hF : SF S lim T) (h2 : S ≤ 4096) (hR : Sep (refS rt q T :: l) w) : CallR Try.prog 37 [refV S lim q T, .int .i64 (s : Int)] w (fun v w' => ∃ q, v = .tuple [refV S lim q (remO T a s), .int .u32 a, .int .i64 0].toArray ∧ Sep (refS rt q (remO T a s) :: l) w') := by
 refine enter Try.func37 rfl Try.ntmps37 (Nat.le_of_ble_eq_true rfl) ?_; intro aa hS
 have hB := hF.rb h2
 have hBo := hB.o
 have hBr := hB.r
 have hBf := hB.f
 have hfl3 := cst_len (l := T.A.free)
 refine wp_seq_k ?_; intro K910 hK910
 refine wp_region_lit ?_
 refine sB (Bbox hS hR rfl (by rfl) (by decide) ?_); clear hS hR; intro aa ww bb2 hS hR
 refine sB (Balloc hS hR info80 (by rfl) (by rfl) (by decide) ?_); clear hS hR; intro aa ww bb4 hS hR
 revert aa
 refine qN hR ?_
 refine qN hR ?_
 intro aa hS
 refine wpList_nil ?_
 refine hK910 _ _ ?_
 refine wp_seq_k ?_; intro K911 hK911
 refine wp_seq_k ?_; intro K912 hK912
 refine wp_region_lit ?_
 revert aa
 refine qM hR ?_
 refine qA hR rfl (fun _ hS => Yld.lss hS rfl rfl) ?_
 refine qM hR ?_
 refine qB (t := 17) false rfl (by exact decide_eq_false (by omega)) ?_
 refine qMg hR ?_
 refine qAg hR rfl rfl rfl (fun _ hS => Yld.fieldAddr hS rfl 0 Try.underlying80 rfl rfl info3 (by decide)) ?_
 refine qAg hR rfl rfl rfl (fun _ hS => Yld.load1 hS rfl Try.underlying3 rfl rdQ) ?_
 refine qAg hR rfl rfl rfl (fun _ hS => Yld.geq hS rfl rfl) ?_
 refine qB (t := 21) false rfl (by exact decide_eq_false (by omega)) ?_
 refine qA hR rfl (fun _ hS => Yld.pickF hS rfl rfl) ?_
 intro aa hS
 refine wpList_nil ?_
 refine hK912 _ _ ?_
 refine condF hS rfl ?_
 refine wp_skip ?_
 refine hK911 _ _ ?_
 refine wp_seq_k ?_; intro K913 hK913
 refine wp_region_lit ?_
 refine sA hS hR (Yld.loadAgg hS rfl Try.underlying80 rfl info80 rdsQ5 (by rfl)) (by decide) ?_; clear hS; intro aa hS
 revert aa
 refine qM hR ?_
 intro aa hS
 refine sB (Bcall hS rfl Try.call60 (rfOf_ok (z := (s : Int)) hB (hR.pk (r := refS _ _ _) pkQ)) (by decide) ?_); clear hS; intro aa ww vv hS hp
 clear hR
 obtain ⟨rfl, hR⟩ := hp
 rw [hq] at hS
 dsimp only [Option.getD, Option.isSome] at hS
 revert aa
 refine qM hR ?_
 refine qX hR ?_
 refine qX hR ?_
 refine qB (t := 29) true rfl (by rfl) ?_
 refine qN hR ?_
 refine qN hR ?_
 intro aa hS
 refine wpList_nil ?_
 refine hK913 _ _ ?_
 refine wp_seq_k ?_; intro K914 hK914
 refine wp_seq_k ?_; intro K915 hK915
 refine wp_region_lit ?_
 revert aa
 refine qM hR ?_
 refine qA hR rfl (fun _ hS => Yld.not hS rfl) ?_
 intro aa hS
 refine wpList_nil ?_
 refine hK915 _ _ ?_
 refine condF hS rfl ?_
 refine wp_skip ?_
 refine hK914 _ _ ?_
 refine wp_seq_k ?_; intro K916 hK916
 refine wp_region_lit ?_
 revert aa
 refine qN hR ?_
 intro aa hS
 refine wpList_nil ?_
 refine hK916 _ _ ?_
 refine wp_seq_k ?_; intro K917 hK917
 refine wp_seq_k ?_; intro K918 hK918
 refine wp_region_lit ?_
 revert aa
 refine qN hR ?_
 intro aa hS
 refine wpList_nil ?_
 refine hK918 _ _ ?_
 refine wp_block ?_
 replace hR := (hR.pk (r := refS _ _ _) pkQ).refE
 replace hR := hR.slsNil (T := 130) (sz := 2)
 replace hR := hR.pk (r := sls none 0 0 130 2 []) pkQ
 refine loopI (X := Nat × Option Addr × Nat) [(1, _), (2, _), (4, _), (5, _), (6, _), (7, _)] (fun x => [(9, .slice x.2.1 ((T.O.take x.1).filter fun p => decide (p.2 ≠ s)).length x.2.2), (10, .int .i64 (x.1 : Int))]) (fun x => [sls x.2.1 ((T.O.take x.1).filter fun p => decide (p.2 ≠ s)).length x.2.2 130 2 (((T.O.take x.1).filter fun p => decide (p.2 ≠ s)).flatMap eO)]) _ (fun x => x.1 ≤ T.O.length) (fun x => T.O.length - x.1) (0, none, 0) (Nat.zero_le _) (hS.le (Le.cons rfl (Le.cons rfl (Le.nilapp (Le.cons rfl (Le.cons rfl (Le.cons rfl (Le.cons rfl (Le.cons rfl (Le.cons rfl (Le.nil _))))))))))) hR ?_
 clear hS hR; rintro ⟨i, r0, c0⟩ aa ww hI hS hR; dsimp only [List.cons_append, List.nil_append] at hI hS hR
 refine wp_seq_k ?_; intro K920 hK920
 refine wp_seq_k ?_; intro K921 hK921
 refine wp_region_lit ?_
 revert aa
 refine qM hR ?_
 refine qA hR rfl (fun _ hS => Yld.fieldAddr hS rfl 2 Try.underlying80 rfl rfl info77 (by decide)) ?_
 refine qA hR rfl (fun _ hS => Yld.load1 hS rfl Try.underlying77 rfl rdQ) ?_
 refine qA hR rfl (fun _ hS => Yld.len hS rfl Try.underlying77) ?_
 refine qA hR rfl (fun _ hS => Yld.lss hS rfl rfl) ?_
 intro aa hS
 refine wpList_nil ?_
 refine hK921 _ _ ?_
 refine hS.splitB (t := 37) rfl ?_ ?_ <;> clear hS
 ·
  intro hg hS
  obtain ⟨⟨pa, ps⟩, hpe⟩ : ∃ y : Int × Nat, T.O[i]'(by omega) = y := ⟨_, rfl⟩
  have hfn := fil_next (L := T.O) (P := fun p => decide (p.2 ≠ s)) (i := i) (by omega)
  rw [hpe] at hfn
  have hfl : ((T.O.take i).filter fun p => decide (p.2 ≠ s)).length ≤ i := Nat.le_trans (List.length_filter_le _ _) (by rw [List.length_take]; omega)
  refine condT hS rfl ?_
  refine wp_skip ?_
  refine hK920 _ _ ?_
  refine wp_seq_k ?_; intro K922 hK922
  refine wp_block ?_
  refine wp_seq_k ?_; intro K923 hK923
  refine wp_region_lit ?_
  revert aa
  refine qA hR rfl (fun _ hS => Yld.fieldAddr hS rfl 2 Try.underlying80 rfl rfl info77 (by decide)) ?_
  refine qA hR rfl (fun _ hS => Yld.load1 hS rfl Try.underlying77 rfl rdQ) ?_
  refine qM hR ?_
  refine qA hR rfl (fun _ hS => ilQ 2 (i) Try.underlying77 info130) ?_
  refine qA hR rfl (fun _ hS => Yld.fieldAddr hS rfl 1 Try.underlying130 rfl rfl info3 (by decide)) ?_
  intro aa hS
  refine sA hS hR (Yld.load1 hS rfl Try.underlying3 rfl rdQ) (by decide) ?_; clear hS; intro aa hS
  rw [hpe] at hS
  revert aa
  refine qM hR ?_
  refine qA hR rfl (fun _ hS => Yld.neq hS rfl rfl) ?_
  intro aa hS
  refine wpList_nil ?_
  refine hK923 _ _ ?_
  refine hS.splitB (t := 47) rfl ?_ ?_ <;> clear hS
  ·
   intro hg hS
   rw [if_pos (decide_eq_true (by omega : ps ≠ s))] at hfn
   refine condT hS rfl ?_
   refine wp_region_lit ?_
   revert aa
   refine qM hR ?_
   refine qA hR rfl (fun _ hS => Yld.fieldAddr hS rfl 2 Try.underlying80 rfl rfl info77 (by decide)) ?_
   refine qA hR rfl (fun _ hS => Yld.load1 hS rfl Try.underlying77 rfl rdQ) ?_
   refine qM hR ?_
   refine qA hR rfl (fun _ hS => ilQ 2 (i) Try.underlying77 info130) ?_
   intro aa hS
   refine sA hS hR (Yld.loadAgg hS rfl Try.underlying130 rfl info130 rdsQ2 (by rfl)) (by decide) ?_; clear hS; intro aa hS
   replace hS := hS.say (t := 53) (.agg [.int .u32 pa, .int .i64 (ps : Int)].toArray) rfl (by rw [hpe])
   refine sB (BbuildSlice hS hR rfl (bls77_1_0 _ _) (by decide) ?_); clear hS hR; intro aa ww bb54 hS hR
   refine sB (BappendR (sz := 2) hS hR rfl rfl Try.underlying77 info130 rfl rfl (by rfl) pkQ (XC.one ((pa, ps)) pkQ (by rfl) rfl) (by intro _; rfl) (by show (_ + _) * 16 ≤ _; first | omega | (simp only [List.length_take, List.length_append, List.length_drop, List.length_cons, List.length_nil, List.length_map]; omega)) (by first | omega | (simp only [List.length_take, List.length_append, List.length_drop, List.length_cons, List.length_nil, List.length_map]; omega)) (by first | rfl | (simp; done) | (simp; omega)) (by decide) ?_); clear hS hR; intro aa ww r55 c55 hS hR
   rw [← hfn] at hS hR
   revert aa
   refine qN hR ?_
   intro aa hS
   refine wpList_nil ?_
   refine hK922 _ _ ?_
   refine wp_region_lit ?_
   revert aa
   refine qM hR ?_
   intro aa hS
   refine sA hS hR adQ (by decide) ?_; clear hS; intro aa hS
   revert aa
   refine qN hR ?_
   intro aa hS
   refine wpList_nil ?_
   
   refine ⟨(i + 1, _, _), ?_, ?_, hS.le (Le.cons rfl (Le.cons rfl (Le.nilapp (Le.cons rfl (Le.cons rfl (Le.cons rfl (Le.cons rfl (Le.cons rfl (Le.cons rfl (Le.nil _)))))))))), hR.sub (Ex.take pkQ (Ex.nilapp exQ))⟩
   ·
    dsimp only; omega
   ·
    dsimp only; omega
  ·
   intro hg hS
   rw [if_neg (by simp; omega)] at hfn
   rw [← hfn] at hS hR
   refine condF hS rfl ?_
   refine wp_skip ?_
   refine hK922 _ _ ?_
   refine wp_region_lit ?_
   revert aa
   refine qM hR ?_
   intro aa hS
   refine sA hS hR adQ (by decide) ?_; clear hS; intro aa hS
   revert aa
   refine qN hR ?_
   intro aa hS
   refine wpList_nil ?_
   
   refine ⟨(i + 1, _, _), ?_, ?_, hS.le (Le.cons rfl (Le.cons rfl (Le.nilapp (Le.cons rfl (Le.cons rfl (Le.cons rfl (Le.cons rfl (Le.cons rfl (Le.cons rfl (Le.nil _)))))))))), hR.sub (Ex.take pkQ (Ex.nilapp exQ))⟩
   ·
    dsimp only; omega
   ·
    dsimp only; omega
 ·
  intro hg hS
  rw [List.take_of_length_le (show T.O.length ≤ i by omega)] at hS hR
  refine condF hS rfl ?_
  refine wp_exit ?_
  refine hK917 _ _ ?_
  refine wp_seq_k ?_; intro K924 hK924
  refine wp_region_lit ?_
  revert aa
  refine qM hR ?_
  refine qA hR rfl (fun _ hS => Yld.fieldAddr hS rfl 2 Try.underlying80 rfl rfl info77 (by decide)) ?_
  intro aa hS
  refine sB (Bstore hS hR rfl rfl (by rfl) info77 (by rfl) pkQ (by rfl) (Nat.le_of_ble_eq_true rfl) ?_); clear hR; intro ww hR
  refine wpList_nil ?_
  refine hK924 _ _ ?_
  refine wp_seq_k ?_; intro K925 hK925
  refine wp_seq_k ?_; intro K926 hK926
  refine wp_region_lit ?_
  dsimp only [lay, List.set] at hR
  replace hR := hR.refP (t := rt) (O := (T.O.filter fun p => decide (p.2 ≠ s))) (R := T.R) (A := T.A) (r1 := r0) (c1 := c0) (r2 := q.r2) (c2 := q.c2) (r3 := q.r3) (c3 := q.c3) (n1 := (T.O.filter fun p => decide (p.2 ≠ s)).length) (n2 := T.R.length) (n3 := (cst T.A.free).length) pkQ pkQ pkQ rfl rfl rfl
  have hB2 : RB { O := (T.O.filter fun p => decide (p.2 ≠ s)), R := T.R, A := T.A } := ⟨Nat.le_trans (List.length_filter_le _ _) hBo, hBr, hBf⟩
  refine sA hS hR (Yld.loadAgg hS rfl Try.underlying80 rfl info80 rdsQ5 (by rfl)) (by decide) ?_; clear hS; intro aa hS
  revert aa
  refine qM hR ?_
  intro aa hS
  refine sB (Bcall hS rfl Try.call61 (rfSlots_ok (S := S) (lim := lim) (q := ⟨r0, c0, q.r2, q.c2, q.r3, q.c3⟩) (T := { O := (T.O.filter fun p => decide (p.2 ≠ s)), R := T.R, A := T.A }) (a := a) hB2 (hR.pk (r := refS _ _ _) pkQ)) (by decide) ?_); clear hS; intro aa ww vv hS hp
  clear hR
  obtain ⟨rz, cz, rfl, hR⟩ := hp
  dsimp only at hS hR
  have hcl := cst_len (l := slO (T.O.filter fun p => decide (p.2 ≠ s)) a)
  revert aa
  refine qA hR rfl (fun _ hS => Yld.len hS rfl Try.underlying40) ?_
  refine qA hR rfl (fun _ hS => Yld.gtr hS rfl rfl) ?_
  refine qB (t := 62) false rfl (by rw [he]; rfl) ?_
  intro aa hS
  refine wpList_nil ?_
  refine hK926 _ _ ?_
  refine condF hS rfl ?_
  refine wp_skip ?_
  refine hK925 _ _ ?_
  refine wp_seq_k ?_; intro K927 hK927
  refine wp_region_lit ?_
  refine sA hS hR (Yld.loadAgg hS rfl Try.underlying80 rfl info80 rdsQ5 (by rfl)) (by decide) ?_; clear hS; intro aa hS
  revert aa
  refine qM hR ?_
  intro aa hS
  refine sB (Bcall hS rfl Try.call62 (rfRecord_ok (S := S) (lim := lim) (q := ⟨r0, c0, q.r2, q.c2, q.r3, q.c3⟩) (T := { O := (T.O.filter fun p => decide (p.2 ≠ s)), R := T.R, A := T.A }) (a := a) hB2 (hR.pk (r := refS _ _ _) pkQ)) (by decide) ?_); clear hS; intro aa ww vv hS hp
  clear hR
  obtain ⟨rfl, hR⟩ := hp
  dsimp only at hS
  rw [hrc] at hS
  dsimp only [optV, Option.getD, Option.isSome] at hS
  revert aa
  refine qM hR ?_
  refine qX hR ?_
  refine qX hR ?_
  refine qN hR ?_
  refine qN hR ?_
  intro aa hS
  refine wpList_nil ?_
  refine hK927 _ _ ?_
  refine wp_seq_k ?_; intro K928 hK928
  refine wp_region_lit ?_
  revert aa
  refine qN hR ?_
  intro aa hS
  refine wpList_nil ?_
  refine hK928 _ _ ?_
  refine wp_seq_k ?_; intro K929 hK929
  refine wp_seq_k ?_; intro K930 hK930
  refine wp_region_lit ?_
  revert aa
  refine qN hR ?_
  intro aa hS
  refine wpList_nil ?_
  refine hK930 _ _ ?_
  refine wp_block ?_
  replace hR := (hR.pk (r := refS _ _ _) pkQ).refE
  dsimp only at hR
  replace hR := hR.slsNil (T := 128) (sz := 2)
  replace hR := hR.pk (r := sls none 0 0 128 2 []) pkQ
  refine loopI (X := Nat × Option Addr × Nat) [(2, _), (4, _), (5, _), (6, _), (7, _), (11, _)] (fun x => [(13, .slice x.2.1 ((T.R.take x.1).filter fun p => decide (p.1 ≠ a)).length x.2.2), (14, .int .i64 (x.1 : Int))]) (fun x => [sls x.2.1 ((T.R.take x.1).filter fun p => decide (p.1 ≠ a)).length x.2.2 128 2 (((T.R.take x.1).filter fun p => decide (p.1 ≠ a)).flatMap eO)]) _ (fun x => x.1 ≤ T.R.length) (fun x => T.R.length - x.1) (0, none, 0) (Nat.zero_le _) (hS.le (Le.cons rfl (Le.cons rfl (Le.nilapp (Le.cons rfl (Le.cons rfl (Le.cons rfl (Le.cons rfl (Le.cons rfl (Le.cons rfl (Le.nil _))))))))))) hR ?_
  clear hS hR; rintro ⟨i, r1, c1⟩ aa ww hI hS hR; dsimp only [List.cons_append, List.nil_append] at hI hS hR
  refine wp_seq_k ?_; intro K932 hK932
  refine wp_seq_k ?_; intro K933 hK933
  refine wp_region_lit ?_
  revert aa
  refine qM hR ?_
  refine qA hR rfl (fun _ hS => Yld.fieldAddr hS rfl 3 Try.underlying80 rfl rfl info78 (by decide)) ?_
  refine qA hR rfl (fun _ hS => Yld.load1 hS rfl Try.underlying78 rfl rdQ) ?_
  refine qA hR rfl (fun _ hS => Yld.len hS rfl Try.underlying78) ?_
  refine qA hR rfl (fun _ hS => Yld.lss hS rfl rfl) ?_
  intro aa hS
  refine wpList_nil ?_
  refine hK933 _ _ ?_
  refine hS.splitB (t := 75) rfl ?_ ?_ <;> clear hS
  ·
   intro hg hS
   obtain ⟨⟨pa, ps⟩, hpe⟩ : ∃ y : Int × Nat, T.R[i]'(by omega) = y := ⟨_, rfl⟩
   have hfn := fil_next (L := T.R) (P := fun p => decide (p.1 ≠ a)) (i := i) (by omega)
   rw [hpe] at hfn
   have hfl : ((T.R.take i).filter fun p => decide (p.1 ≠ a)).length ≤ i := Nat.le_trans (List.length_filter_le _ _) (by rw [List.length_take]; omega)
   refine condT hS rfl ?_
   refine wp_skip ?_
   refine hK932 _ _ ?_
   refine wp_seq_k ?_; intro K934 hK934
   refine wp_block ?_
   refine wp_seq_k ?_; intro K935 hK935
   refine wp_region_lit ?_
   revert aa
   refine qA hR rfl (fun _ hS => Yld.fieldAddr hS rfl 3 Try.underlying80 rfl rfl info78 (by decide)) ?_
   refine qA hR rfl (fun _ hS => Yld.load1 hS rfl Try.underlying78 rfl rdQ) ?_
   refine qM hR ?_
   refine qA hR rfl (fun _ hS => ilQ 2 (i) Try.underlying78 info128) ?_
   refine qA hR rfl (fun _ hS => Yld.fieldAddr hS rfl 0 Try.underlying128 rfl rfl info28 (by decide)) ?_
   intro aa hS
   refine sA hS hR (Yld.load1 hS rfl Try.underlying28 rfl rdQ) (by decide) ?_; clear hS; intro aa hS
   rw [hpe] at hS
   revert aa
   refine qM hR ?_
   refine qA hR rfl (fun _ hS => Yld.neq hS rfl rfl) ?_
   intro aa hS
   refine wpList_nil ?_
   refine hK935 _ _ ?_
   refine hS.splitB (t := 85) rfl ?_ ?_ <;> clear hS
   ·
    intro hg hS
    rw [if_pos (decide_eq_true hg)] at hfn
    refine condT hS rfl ?_
    refine wp_region_lit ?_
    revert aa
    refine qM hR ?_
    refine qA hR rfl (fun _ hS => Yld.fieldAddr hS rfl 3 Try.underlying80 rfl rfl info78 (by decide)) ?_
    refine qA hR rfl (fun _ hS => Yld.load1 hS rfl Try.underlying78 rfl rdQ) ?_
    refine qM hR ?_
    refine qA hR rfl (fun _ hS => ilQ 2 (i) Try.underlying78 info128) ?_
    intro aa hS
    refine sA hS hR (Yld.loadAgg hS rfl Try.underlying128 rfl info128 rdsQ2 (by rfl)) (by decide) ?_; clear hS; intro aa hS
    replace hS := hS.say (t := 91) (.agg [.int .u32 pa, .int .i64 (ps : Int)].toArray) rfl (by rw [hpe])
    refine sB (BbuildSlice hS hR rfl (bls78_1_0 _ _) (by decide) ?_); clear hS hR; intro aa ww bb92 hS hR
    refine sB (BappendR (sz := 2) hS hR rfl rfl Try.underlying78 info128 rfl rfl (by rfl) pkQ (XC.one ((pa, ps)) pkQ (by rfl) rfl) (by intro _; rfl) (by show (_ + _) * 16 ≤ _; first | omega | (simp only [List.length_take, List.length_append, List.length_drop, List.length_cons, List.length_nil, List.length_map]; omega)) (by first | omega | (simp only [List.length_take, List.length_append, List.length_drop, List.length_cons, List.length_nil, List.length_map]; omega)) (by first | rfl | (simp; done) | (simp; omega)) (by decide) ?_); clear hS hR; intro aa ww r93 c93 hS hR
    rw [← hfn] at hS hR
    revert aa
    refine qN hR ?_
    intro aa hS
    refine wpList_nil ?_
    refine hK934 _ _ ?_
    refine wp_region_lit ?_
    revert aa
    refine qM hR ?_
    intro aa hS
    refine sA hS hR adQ (by decide) ?_; clear hS; intro aa hS
    revert aa
    refine qN hR ?_
    intro aa hS
    refine wpList_nil ?_
    
    refine ⟨(i + 1, _, _), ?_, ?_, hS.le (Le.cons rfl (Le.cons rfl (Le.nilapp (Le.cons rfl (Le.cons rfl (Le.cons rfl (Le.cons rfl (Le.cons rfl (Le.cons rfl (Le.nil _)))))))))), hR.sub (Ex.take pkQ (Ex.nilapp exQ))⟩
    ·
     dsimp only; omega
    ·
     dsimp only; omega
   ·
    intro hg hS
    rw [if_neg (by simp; omega)] at hfn
    rw [← hfn] at hS hR
    refine condF hS rfl ?_
    refine wp_skip ?_
    refine hK934 _ _ ?_
    refine wp_region_lit ?_
    revert aa
    refine qM hR ?_
    intro aa hS
    refine sA hS hR adQ (by decide) ?_; clear hS; intro aa hS
    revert aa
    refine qN hR ?_
    intro aa hS
    refine wpList_nil ?_
    
    refine ⟨(i + 1, _, _), ?_, ?_, hS.le (Le.cons rfl (Le.cons rfl (Le.nilapp (Le.cons rfl (Le.cons rfl (Le.cons rfl (Le.cons rfl (Le.cons rfl (Le.cons rfl (Le.nil _)))))))))), hR.sub (Ex.take pkQ (Ex.nilapp exQ))⟩
    ·
     dsimp only; omega
    ·
     dsimp only; omega
  ·
   intro hg hS
   rw [List.take_of_length_le (show T.R.length ≤ i by omega)] at hS hR
   refine condF hS rfl ?_
   refine wp_exit ?_
   refine hK929 _ _ ?_
   refine wp_seq_k ?_; intro K936 hK936
   refine wp_region_lit ?_
   revert aa
   refine qM hR ?_
   refine qM hR ?_
   intro aa hS
   refine sB (BbuildSlice hS hR rfl (bls40_1_0 _) (by decide) ?_); clear hS hR; intro aa ww bb96 hS hR
   replace hR := hR.pk (r := blk bb96 _ _) pkQ
   replace hR := Sep.toRecs (m := 1) (sz := 1) (enc := e1) ([(r : Int)]) hR rfl (by intro _; rfl) rfl
   revert aa
   refine qA hR rfl (fun _ hS => Yld.fieldAddr hS rfl 4 Try.underlying80 rfl rfl info40 (by decide)) ?_
   refine qA hR rfl (fun _ hS => Yld.load1 hS rfl Try.underlying40 rfl rdQ) ?_
   intro aa hS
   refine sB (BappendR (sz := 1) hS hR rfl rfl Try.underlying40 info3 rfl rfl (by rfl) pkQ (XC.all pkQ) (by intro _; rfl) (by show (_ + _) * 8 ≤ _; first | omega | (simp only [List.length_take, List.length_append, List.length_drop, List.length_cons, List.length_nil, List.length_map]; omega)) (by first | omega | (simp only [List.length_take, List.length_append, List.length_drop, List.length_cons, List.length_nil, List.length_map]; omega)) (by first | rfl | (simp; done) | (simp; omega)) (by decide) ?_); clear hS hR; intro aa ww r99 c99 hS hR
   rw [show [(r : Int)] ++ cst T.A.free = cst (T.A.give r).free from rfl] at hS hR
   refine sA hS hR (Yld.fieldAddr hS rfl 3 Try.underlying80 rfl rfl info78 (by decide)) (by decide) ?_; clear hS; intro aa hS
   refine sB (Bstore hS hR rfl rfl (by rfl) info78 (by rfl) pkQ (by rfl) (Nat.le_of_ble_eq_true rfl) ?_); clear hR; intro ww hR
   refine sA hS hR (Yld.fieldAddr hS rfl 4 Try.underlying80 rfl rfl info40 (by decide)) (by decide) ?_; clear hS; intro aa hS
   refine sB (Bstore hS hR rfl rfl (by rfl) info40 (by rfl) pkQ (by rfl) (Nat.le_of_ble_eq_true rfl) ?_); clear hR; intro ww hR
   refine wpList_nil ?_
   refine hK936 _ _ ?_
   refine wp_seq_k ?_; intro K937 hK937
   refine wp_region_lit ?_
   refine sA hS hR (Yld.loadAgg hS rfl Try.underlying80 rfl info80 rdsQ5 (by rfl)) (by decide) ?_; clear hS; intro aa hS
   revert aa
   refine qM hR ?_
   intro aa hS
   refine sB (Bstore hS hR rfl rfl (by rfl) info80 (by rfl) pkQ (by rfl) (Nat.le_of_ble_eq_true rfl) ?_); clear hR; intro ww hR
   revert aa
   refine qN hR ?_
   refine qN hR ?_
   intro aa hS
   refine wpList_nil ?_
   refine hK937 _ _ ?_
   refine wp_ret ?_
   repeat first | with_reducible refine thenR ?_ | with_reducible refine blockR ?_ | with_reducible refine scopeR ?_
   refine retN (fn := Try.f37) (e := .ret) (.inl rfl) Try.results37 hS hR ⟨_, .cons (.agg rfl Try.underlying80 rfl info80 (Rds.cons (Rd.blk pkQ (by rfl)) (Rds.cons (Rd.blk pkQ (by rfl)) (Rds.cons (Rd.blk pkQ (by rfl)) (Rds.cons (Rd.blk pkQ (by rfl)) (Rds.cons (Rd.blk pkQ (by rfl)) (Rds.nil)))))) (by rfl)) (.cons (.tmp rfl) (.cons (.tmp rfl) (.nil))), rfl, ?_⟩
   try dsimp only [lay, List.set] at hR
   rw [remO_last hrc he]
   replace hR := Sep.refI (t := rt) (O := (T.O.filter fun p => decide (p.2 ≠ s))) (R := (T.R.filter fun p => decide (p.1 ≠ a))) (A := T.A.give r) rfl rfl rfl (hR.sub exQ)
   exact ⟨_, rfl, (hR.sub exQ)⟩
theorem rfClose_ok {S lim : Nat} {q : RQ} {T : So} {l : List HP} {w : World} {x : Int} (hF : SF S lim T) (h2 : S ≤ 4096) (hR : Sep (refS rt q T :: l) w) : CallR Try.prog 37 [refV S lim q T, .int .i64 x] w (fun v w' => ∃ q, v = .tuple [refV S lim q (clsN T x), .int .u32 ((ofO T.O x).getD 0), .int .i64 (clsE S T x)].toArray ∧ Sep (refS rt q (clsN T x) :: l) w') := by
 by_cases hx : 0 ≤ x ∧ x < S
 ·
  obtain ⟨s, rfl⟩ : ∃ s : Nat, x = s := ⟨x.toNat, by omega⟩
  have hs : s < S := by omega
  cases hq : ofO T.O (s : Int) with
  | none =>
   rw [(cls_none hx hq).1, (cls_none hx hq).2]
   exact rfClose_none hs hq hF h2 hR
  | some a =>
   rw [(cls_ok hs hq).1, (cls_ok hs hq).2]
   by_cases he : slO (T.O.filter fun p => decide (p.2 ≠ s)) a = []
   ·
    obtain ⟨s2, e2, hm⟩ := ofO_in hq
    obtain ⟨r, hr⟩ := hF.srcO hm
    exact rfClose_last hs hq (rcR_of hF.nda hr) he hF h2 hR
   ·
    exact rfClose_more hs hq he hF h2 hR
 ·
  rw [(hF.cls_bad hx).1, (hF.cls_bad hx).2, hF.off hx]
  exact rfClose_bad hx hF h2 hR
end Go.Proofs.Ythjfclljjcpikaa.Sx
