/-
 
-/
import Derived.Test.YthjfclljjcpikaaLwB
import Derived.Test.YthjfclljjcpikaaPj
namespace Go.Proofs.Ythjfclljjcpikaa.Sx
open Go
set_option linter.unusedVariables false
set_option linter.unusedSimpArgs false

theorem info77 : Try.prog.info? 77 = some Try.t77 := by kernel_rfl
theorem info78 : Try.prog.info? 78 = some Try.t78 := by kernel_rfl
theorem info128 : Try.prog.info? 128 = some Try.t128 := by kernel_rfl
theorem info130 : Try.prog.info? 130 = some Try.t130 := by kernel_rfl

abbrev rt : RT := { O := 130, S := 128, I := 3 }
theorem Sep.refI' {t : RT} {q : RQ} {T : So} {l : List HP} {w : World} (h : Sep (sls q.r1 T.O.length q.c1 t.O 2 (T.O.flatMap eO) :: sls q.r2 T.R.length q.c2 t.S 2 (T.R.flatMap eO) :: sls q.r3 (cst T.A.free).length q.c3 t.I 1 ((cst T.A.free).flatMap e1) :: l) w) : Sep (refS t q T :: l) w := Sep.packL [_, _, _] h
set_option maxHeartbeats 1000000 in
set_option maxRecDepth 20000 in
theorem rfSlots_ok {S lim : Nat} {q : RQ} {T : So} {l : List HP} {w : World} {a : Int} (hB : RB T) (hR : Sep (refS rt q T :: l) w) : CallR Try.prog 61 [refV S lim q T, .int .u32 a] w (fun v w' => ∃ r c, v = .slice r (cst (slO T.O a)).length c ∧ Sep (sls r (cst (slO T.O a)).length c 3 1 ((cst (slO T.O a)).flatMap e1) :: refS rt q T :: l) w') := by
 refine enter Try.func61 rfl Try.ntmps61 (Nat.le_of_ble_eq_true rfl) ?_; intro aa hS
 have hBo := hB.o
 have hBr := hB.r
 have hBf := hB.f
 replace hR := (hR.pk (r := refS _ _ _) pkQ).refE
 refine wp_seq_k ?_; intro K769 hK769
 refine wp_region_lit ?_
 refine sB (Bbox hS hR rfl (by rfl) (by decide) ?_); clear hS hR; intro aa ww bb2 hS hR
 revert aa
 refine qN hR ?_
 intro aa hS
 refine wpList_nil ?_
 refine hK769 _ _ ?_
 refine wp_seq_k ?_; intro K770 hK770
 refine wp_region_lit ?_
 revert aa
 refine qN hR ?_
 intro aa hS
 refine wpList_nil ?_
 refine hK770 _ _ ?_
 refine wp_seq_k ?_; intro K771 hK771
 refine wp_seq_k ?_; intro K772 hK772
 refine wp_region_lit ?_
 revert aa
 refine qN hR ?_
 intro aa hS
 refine wpList_nil ?_
 refine hK772 _ _ ?_
 refine wp_block ?_
 replace hR := hR.slsNil (T := 3) (sz := 1)
 replace hR := hR.pk (r := sls none 0 0 3 1 []) pkQ
 refine loopI (X := Nat × Option Addr × Nat) [(1, _), (2, _), (4, _)] (fun x => [(5, .slice x.2.1 (cst (slO (T.O.take x.1) a)).length x.2.2), (6, .int .i64 (x.1 : Int))]) (fun x => [sls x.2.1 (cst (slO (T.O.take x.1) a)).length x.2.2 3 1 ((cst (slO (T.O.take x.1) a)).flatMap e1)]) _ (fun x => x.1 ≤ T.O.length) (fun x => T.O.length - x.1) (0, none, 0) (Nat.zero_le _) (hS.le (Le.cons rfl (Le.cons rfl (Le.nilapp (Le.cons rfl (Le.cons rfl (Le.cons rfl (Le.nil _)))))))) hR ?_
 clear hS hR; rintro ⟨i, r0, c0⟩ aa ww hI hS hR; dsimp only [List.cons_append, List.nil_append] at hI hS hR
 refine wp_seq_k ?_; intro K774 hK774
 refine wp_seq_k ?_; intro K775 hK775
 refine wp_region_lit ?_
 revert aa
 refine qM hR ?_
 refine qA hR rfl (fun _ hS => Yld.fieldAddr hS rfl 2 Try.underlying80 rfl rfl info77 (by decide)) ?_
 refine qA hR rfl (fun _ hS => Yld.load1 hS rfl Try.underlying77 rfl rdQ) ?_
 refine qA hR rfl (fun _ hS => Yld.len hS rfl Try.underlying77) ?_
 refine qA hR rfl (fun _ hS => Yld.lss hS rfl rfl) ?_
 intro aa hS
 refine wpList_nil ?_
 refine hK775 _ _ ?_
 refine hS.splitB (t := 11) rfl ?_ ?_ <;> clear hS
 ·
  intro hg hS
  obtain ⟨⟨pa, ps⟩, hpe⟩ : ∃ y : Int × Nat, T.O[i]'(by omega) = y := ⟨_, rfl⟩
  have hsn := slO_next (O := T.O) (a := a) (i := i) (by omega)
  rw [hpe] at hsn
  have htl : (cst (slO (T.O.take i) a)).length ≤ i := by rw [cst_len]; exact Nat.le_trans slO_len (by rw [List.length_take]; omega)
  refine condT hS rfl ?_
  refine wp_skip ?_
  refine hK774 _ _ ?_
  refine wp_seq_k ?_; intro K776 hK776
  refine wp_block ?_
  refine wp_seq_k ?_; intro K777 hK777
  refine wp_region_lit ?_
  revert aa
  refine qA hR rfl (fun _ hS => Yld.fieldAddr hS rfl 2 Try.underlying80 rfl rfl info77 (by decide)) ?_
  refine qA hR rfl (fun _ hS => Yld.load1 hS rfl Try.underlying77 rfl rdQ) ?_
  refine qM hR ?_
  refine qA hR rfl (fun _ hS => ilQ 2 (i) Try.underlying77 info130) ?_
  refine qA hR rfl (fun _ hS => Yld.fieldAddr hS rfl 0 Try.underlying130 rfl rfl info28 (by decide)) ?_
  intro aa hS
  refine sA hS hR (Yld.load1 hS rfl Try.underlying28 rfl rdQ) (by decide) ?_; clear hS; intro aa hS
  rw [hpe] at hS
  revert aa
  refine qM hR ?_
  refine qA hR rfl (fun _ hS => Yld.eql hS rfl rfl) ?_
  intro aa hS
  refine wpList_nil ?_
  refine hK777 _ _ ?_
  refine hS.splitB (t := 21) rfl ?_ ?_ <;> clear hS
  ·
   intro hg hS
   rw [if_pos hg] at hsn
   refine condT hS rfl ?_
   refine wp_region_lit ?_
   revert aa
   refine qM hR ?_
   refine qA hR rfl (fun _ hS => Yld.fieldAddr hS rfl 2 Try.underlying80 rfl rfl info77 (by decide)) ?_
   refine qA hR rfl (fun _ hS => Yld.load1 hS rfl Try.underlying77 rfl rdQ) ?_
   refine qM hR ?_
   refine qA hR rfl (fun _ hS => ilQ 2 (i) Try.underlying77 info130) ?_
   refine qA hR rfl (fun _ hS => Yld.fieldAddr hS rfl 1 Try.underlying130 rfl rfl info3 (by decide)) ?_
   intro aa hS
   refine sA hS hR (Yld.load1 hS rfl Try.underlying3 rfl rdQ) (by decide) ?_; clear hS; intro aa hS
   rw [hpe] at hS
   refine sB (BbuildSlice hS hR rfl (bls40_1_0 _) (by decide) ?_); clear hS hR; intro aa ww bb29 hS hR
   refine sB (BappendR (sz := 1) hS hR rfl rfl Try.underlying40 info3 rfl rfl (by rfl) pkQ (XC.one ((ps : Int)) pkQ (by rfl) rfl) (by intro _; rfl) (by show (_ + _) * 8 ≤ _; first | omega | (simp only [List.length_take, List.length_append, List.length_drop, List.length_cons, List.length_nil, List.length_map]; omega)) (by first | omega | (simp only [List.length_take, List.length_append, List.length_drop, List.length_cons, List.length_nil, List.length_map]; omega)) (by first | rfl | (simp; done) | (simp; omega)) (by decide) ?_); clear hS hR; intro aa ww r30 c30 hS hR
   rw [cst_snoc, ← hsn] at hS hR
   revert aa
   refine qN hR ?_
   intro aa hS
   refine wpList_nil ?_
   refine hK776 _ _ ?_
   refine wp_region_lit ?_
   revert aa
   refine qM hR ?_
   intro aa hS
   refine sA hS hR adQ (by decide) ?_; clear hS; intro aa hS
   revert aa
   refine qN hR ?_
   intro aa hS
   refine wpList_nil ?_
   
   refine ⟨(i + 1, _, _), ?_, ?_, hS.le (Le.cons rfl (Le.cons rfl (Le.nilapp (Le.cons rfl (Le.cons rfl (Le.cons rfl (Le.nil _))))))), hR.sub (Ex.take pkQ (Ex.nilapp exQ))⟩
   ·
    dsimp only; omega
   ·
    dsimp only; omega
  ·
   intro hg hS
   rw [if_neg hg] at hsn
   rw [← hsn] at hS hR
   refine condF hS rfl ?_
   refine wp_skip ?_
   refine hK776 _ _ ?_
   refine wp_region_lit ?_
   revert aa
   refine qM hR ?_
   intro aa hS
   refine sA hS hR adQ (by decide) ?_; clear hS; intro aa hS
   revert aa
   refine qN hR ?_
   intro aa hS
   refine wpList_nil ?_
   
   refine ⟨(i + 1, _, _), ?_, ?_, hS.le (Le.cons rfl (Le.cons rfl (Le.nilapp (Le.cons rfl (Le.cons rfl (Le.cons rfl (Le.nil _))))))), hR.sub (Ex.take pkQ (Ex.nilapp exQ))⟩
   ·
    dsimp only; omega
   ·
    dsimp only; omega
 ·
  intro hg hS
  rw [List.take_of_length_le (show T.O.length ≤ i by omega)] at hS hR
  refine condF hS rfl ?_
  refine wp_exit ?_
  refine hK771 _ _ ?_
  refine wp_seq_k ?_; intro K778 hK778
  refine wp_region_lit ?_
  revert aa
  refine qM hR ?_
  refine qN hR ?_
  intro aa hS
  refine wpList_nil ?_
  refine hK778 _ _ ?_
  refine wp_ret ?_
  repeat first | with_reducible refine thenR ?_ | with_reducible refine blockR ?_ | with_reducible refine scopeR ?_
  refine ret1 (fn := Try.f61) (e := .ret) (.inl rfl) Try.results61 hS hR ⟨_, (.tmp rfl), ?_⟩
  replace hR := Sep.refI' (t := rt) (q := q) (T := T) (hR.sub exQ)
  exact ⟨r0, c0, rfl, (hR.sub exQ)⟩
set_option maxHeartbeats 1000000 in
set_option maxRecDepth 20000 in
theorem rfOf_ok {S lim : Nat} {q : RQ} {T : So} {l : List HP} {w : World} {z : Int} (hB : RB T) (hR : Sep (refS rt q T :: l) w) : CallR Try.prog 60 [refV S lim q T, .int .i64 z] w (fun v w' => v = .tuple [.int .u32 ((ofO T.O z).getD 0), .bool (ofO T.O z).isSome].toArray ∧ Sep (refS rt q T :: l) w') := by
 refine enter Try.func60 rfl Try.ntmps60 (Nat.le_of_ble_eq_true rfl) ?_; intro aa hS
 have hBo := hB.o
 have hBr := hB.r
 have hBf := hB.f
 replace hR := (hR.pk (r := refS _ _ _) pkQ).refE
 refine wp_seq_k ?_; intro K779 hK779
 refine wp_region_lit ?_
 refine sB (Bbox hS hR rfl (by rfl) (by decide) ?_); clear hS hR; intro aa ww bb2 hS hR
 revert aa
 refine qN hR ?_
 refine qN hR ?_
 intro aa hS
 refine wpList_nil ?_
 refine hK779 _ _ ?_
 refine wp_seq_k ?_; intro K780 hK780
 refine wp_seq_k ?_; intro K781 hK781
 refine wp_region_lit ?_
 revert aa
 refine qN hR ?_
 intro aa hS
 refine wpList_nil ?_
 refine hK781 _ _ ?_
 refine wp_block ?_
 refine loopI (X := Nat) [(1, _), (2, _)] (fun x => [(6, .int .i64 (x : Int))]) (fun x => []) _ (fun x => x ≤ T.O.length ∧ ∀ p ∈ T.O.take x, (p.2 : Int) ≠ z) (fun x => T.O.length - x) 0 ⟨Nat.zero_le _, by simp⟩ (hS.le (Le.cons rfl (Le.nilapp (Le.cons rfl (Le.cons rfl (Le.nil _)))))) hR ?_
 clear hS hR; rintro i aa ww hI hS hR; dsimp only [List.cons_append, List.nil_append] at hI hS hR
 refine wp_seq_k ?_; intro K783 hK783
 refine wp_seq_k ?_; intro K784 hK784
 refine wp_region_lit ?_
 revert aa
 refine qM hR ?_
 refine qA hR rfl (fun _ hS => Yld.fieldAddr hS rfl 2 Try.underlying80 rfl rfl info77 (by decide)) ?_
 refine qA hR rfl (fun _ hS => Yld.load1 hS rfl Try.underlying77 rfl rdQ) ?_
 refine qA hR rfl (fun _ hS => Yld.len hS rfl Try.underlying77) ?_
 refine qA hR rfl (fun _ hS => Yld.lss hS rfl rfl) ?_
 intro aa hS
 refine wpList_nil ?_
 refine hK784 _ _ ?_
 refine hS.splitB (t := 11) rfl ?_ ?_ <;> clear hS
 ·
  intro hg hS
  obtain ⟨⟨pa, ps⟩, hpe⟩ : ∃ y : Int × Nat, T.O[i]'(by omega) = y := ⟨_, rfl⟩
  refine condT hS rfl ?_
  refine wp_skip ?_
  refine hK783 _ _ ?_
  refine wp_seq_k ?_; intro K785 hK785
  refine wp_block ?_
  refine wp_seq_k ?_; intro K786 hK786
  refine wp_region_lit ?_
  revert aa
  refine qA hR rfl (fun _ hS => Yld.fieldAddr hS rfl 2 Try.underlying80 rfl rfl info77 (by decide)) ?_
  refine qA hR rfl (fun _ hS => Yld.load1 hS rfl Try.underlying77 rfl rdQ) ?_
  refine qM hR ?_
  refine qA hR rfl (fun _ hS => ilQ 2 (i) Try.underlying77 info130) ?_
  refine qA hR rfl (fun _ hS => Yld.fieldAddr hS rfl 1 Try.underlying130 rfl rfl info3 (by decide)) ?_
  intro aa hS
  refine sA hS hR (Yld.load1 hS rfl Try.underlying3 rfl rdQ) (by decide) ?_; clear hS; intro aa hS
  rw [hpe] at hS
  revert aa
  refine qM hR ?_
  refine qA hR rfl (fun _ hS => Yld.eql hS rfl rfl) ?_
  intro aa hS
  refine wpList_nil ?_
  refine hK786 _ _ ?_
  refine hS.splitB (t := 21) rfl ?_ ?_ <;> clear hS
  ·
   intro hg hS
   have hyes := ofO_at (O := T.O) (x := z) (i := i) (by omega) (by rw [hpe]; exact hg) hI.2
   rw [hpe] at hyes
   refine condT hS rfl ?_
   refine wp_seq_k ?_; intro K787 hK787
   refine wp_region_lit ?_
   revert aa
   refine qA hR rfl (fun _ hS => Yld.fieldAddr hS rfl 2 Try.underlying80 rfl rfl info77 (by decide)) ?_
   refine qA hR rfl (fun _ hS => Yld.load1 hS rfl Try.underlying77 rfl rdQ) ?_
   refine qM hR ?_
   refine qA hR rfl (fun _ hS => ilQ 2 (i) Try.underlying77 info130) ?_
   refine qA hR rfl (fun _ hS => Yld.fieldAddr hS rfl 0 Try.underlying130 rfl rfl info28 (by decide)) ?_
   intro aa hS
   refine sA hS hR (Yld.load1 hS rfl Try.underlying28 rfl rdQ) (by decide) ?_; clear hS; intro aa hS
   rw [hpe] at hS
   revert aa
   refine qN hR ?_
   refine qN hR ?_
   intro aa hS
   refine wpList_nil ?_
   refine hK787 _ _ ?_
   refine wp_ret ?_
   repeat first | with_reducible refine thenR ?_ | with_reducible refine blockR ?_ | with_reducible refine scopeR ?_
   refine retN (fn := Try.f60) (e := .ret) (.inl rfl) Try.results60 hS hR ⟨_, .cons (.tmp rfl) (.cons (.tmp rfl) (.nil)), rfl, ?_⟩
   rw [hyes]
   exact ⟨rfl, Sep.refI' (t := rt) (q := q) (T := T) (hR.sub exQ)⟩
  ·
   intro hg hS
   have hnx := no_next (R := T.O) (P := fun p => (p.2 : Int) ≠ z) (i := i) (by omega) hI.2 (by rw [hpe]; exact hg)
   refine condF hS rfl ?_
   refine wp_skip ?_
   refine hK785 _ _ ?_
   refine wp_region_lit ?_
   revert aa
   refine qM hR ?_
   intro aa hS
   refine sA hS hR adQ (by decide) ?_; clear hS; intro aa hS
   revert aa
   refine qN hR ?_
   intro aa hS
   refine wpList_nil ?_
   
   refine ⟨i + 1, ?_, ?_, hS.le (Le.cons rfl (Le.nilapp (Le.cons rfl (Le.cons rfl (Le.nil _))))), hR.sub (Ex.nilapp exQ)⟩
   ·
    exact ⟨by omega, hnx⟩
   ·
    omega
 ·
  intro hg hS
  have hno := ofO_none.2 (no_all (R := T.O) (P := fun p => (p.2 : Int) ≠ z) (i := i) (by omega) hI.2)
  refine condF hS rfl ?_
  refine wp_exit ?_
  refine hK780 _ _ ?_
  refine wp_seq_k ?_; intro K788 hK788
  refine wp_region_lit ?_
  revert aa
  refine qN hR ?_
  refine qN hR ?_
  intro aa hS
  refine wpList_nil ?_
  refine hK788 _ _ ?_
  refine wp_ret ?_
  repeat first | with_reducible refine thenR ?_ | with_reducible refine blockR ?_ | with_reducible refine scopeR ?_
  refine retN (fn := Try.f60) (e := .ret) (.inl rfl) Try.results60 hS hR ⟨_, .cons (.tmp rfl) (.cons (.tmp rfl) (.nil)), rfl, ?_⟩
  rw [hno]
  exact ⟨rfl, Sep.refI' (t := rt) (q := q) (T := T) (hR.sub exQ)⟩
set_option maxHeartbeats 1000000 in
set_option maxRecDepth 20000 in
theorem rfRecord_ok {S lim : Nat} {q : RQ} {T : So} {l : List HP} {w : World} {a : Int} (hB : RB T) (hR : Sep (refS rt q T :: l) w) : CallR Try.prog 62 [refV S lim q T, .int .u32 a] w (fun v w' => v = optV (rcR T.R a) ∧ Sep (refS rt q T :: l) w') := by
 refine enter Try.func62 rfl Try.ntmps62 (Nat.le_of_ble_eq_true rfl) ?_; intro aa hS
 have hBo := hB.o
 have hBr := hB.r
 have hBf := hB.f
 replace hR := (hR.pk (r := refS _ _ _) pkQ).refE
 refine wp_seq_k ?_; intro K789 hK789
 refine wp_region_lit ?_
 refine sB (Bbox hS hR rfl (by rfl) (by decide) ?_); clear hS hR; intro aa ww bb2 hS hR
 revert aa
 refine qN hR ?_
 refine qN hR ?_
 intro aa hS
 refine wpList_nil ?_
 refine hK789 _ _ ?_
 refine wp_seq_k ?_; intro K790 hK790
 refine wp_seq_k ?_; intro K791 hK791
 refine wp_region_lit ?_
 revert aa
 refine qN hR ?_
 intro aa hS
 refine wpList_nil ?_
 refine hK791 _ _ ?_
 refine wp_block ?_
 refine loopI (X := Nat) [(1, _), (2, _)] (fun x => [(6, .int .i64 (x : Int))]) (fun x => []) _ (fun x => x ≤ T.R.length ∧ ∀ p ∈ T.R.take x, p.1 ≠ a) (fun x => T.R.length - x) 0 ⟨Nat.zero_le _, by simp⟩ (hS.le (Le.cons rfl (Le.nilapp (Le.cons rfl (Le.cons rfl (Le.nil _)))))) hR ?_
 clear hS hR; rintro i aa ww hI hS hR; dsimp only [List.cons_append, List.nil_append] at hI hS hR
 refine wp_seq_k ?_; intro K793 hK793
 refine wp_seq_k ?_; intro K794 hK794
 refine wp_region_lit ?_
 revert aa
 refine qM hR ?_
 refine qA hR rfl (fun _ hS => Yld.fieldAddr hS rfl 3 Try.underlying80 rfl rfl info78 (by decide)) ?_
 refine qA hR rfl (fun _ hS => Yld.load1 hS rfl Try.underlying78 rfl rdQ) ?_
 refine qA hR rfl (fun _ hS => Yld.len hS rfl Try.underlying78) ?_
 refine qA hR rfl (fun _ hS => Yld.lss hS rfl rfl) ?_
 intro aa hS
 refine wpList_nil ?_
 refine hK794 _ _ ?_
 refine hS.splitB (t := 11) rfl ?_ ?_ <;> clear hS
 ·
  intro hg hS
  obtain ⟨⟨pa, ps⟩, hpe⟩ : ∃ y : Int × Nat, T.R[i]'(by omega) = y := ⟨_, rfl⟩
  refine condT hS rfl ?_
  refine wp_skip ?_
  refine hK793 _ _ ?_
  refine wp_seq_k ?_; intro K795 hK795
  refine wp_block ?_
  refine wp_seq_k ?_; intro K796 hK796
  refine wp_region_lit ?_
  revert aa
  refine qA hR rfl (fun _ hS => Yld.fieldAddr hS rfl 3 Try.underlying80 rfl rfl info78 (by decide)) ?_
  refine qA hR rfl (fun _ hS => Yld.load1 hS rfl Try.underlying78 rfl rdQ) ?_
  refine qM hR ?_
  refine qA hR rfl (fun _ hS => ilQ 2 (i) Try.underlying78 info128) ?_
  refine qA hR rfl (fun _ hS => Yld.fieldAddr hS rfl 0 Try.underlying128 rfl rfl info28 (by decide)) ?_
  intro aa hS
  refine sA hS hR (Yld.load1 hS rfl Try.underlying28 rfl rdQ) (by decide) ?_; clear hS; intro aa hS
  rw [hpe] at hS
  revert aa
  refine qM hR ?_
  refine qA hR rfl (fun _ hS => Yld.eql hS rfl rfl) ?_
  intro aa hS
  refine wpList_nil ?_
  refine hK796 _ _ ?_
  refine hS.splitB (t := 21) rfl ?_ ?_ <;> clear hS
  ·
   intro hg hS
   have hyes := rcR_at (R := T.R) (a := a) (i := i) (by omega) (by rw [hpe]; exact hg) hI.2
   rw [hpe] at hyes
   refine condT hS rfl ?_
   refine wp_seq_k ?_; intro K797 hK797
   refine wp_region_lit ?_
   revert aa
   refine qA hR rfl (fun _ hS => Yld.fieldAddr hS rfl 3 Try.underlying80 rfl rfl info78 (by decide)) ?_
   refine qA hR rfl (fun _ hS => Yld.load1 hS rfl Try.underlying78 rfl rdQ) ?_
   refine qM hR ?_
   refine qA hR rfl (fun _ hS => ilQ 2 (i) Try.underlying78 info128) ?_
   refine qA hR rfl (fun _ hS => Yld.fieldAddr hS rfl 1 Try.underlying128 rfl rfl info3 (by decide)) ?_
   intro aa hS
   refine sA hS hR (Yld.load1 hS rfl Try.underlying3 rfl rdQ) (by decide) ?_; clear hS; intro aa hS
   rw [hpe] at hS
   revert aa
   refine qN hR ?_
   refine qN hR ?_
   intro aa hS
   refine wpList_nil ?_
   refine hK797 _ _ ?_
   refine wp_ret ?_
   repeat first | with_reducible refine thenR ?_ | with_reducible refine blockR ?_ | with_reducible refine scopeR ?_
   refine retN (fn := Try.f62) (e := .ret) (.inl rfl) Try.results62 hS hR ⟨_, .cons (.tmp rfl) (.cons (.tmp rfl) (.nil)), rfl, ?_⟩
   rw [hyes]
   exact ⟨rfl, Sep.refI' (t := rt) (q := q) (T := T) (hR.sub exQ)⟩
  ·
   intro hg hS
   have hnx := no_next (R := T.R) (P := fun p => p.1 ≠ a) (i := i) (by omega) hI.2 (by rw [hpe]; exact hg)
   refine condF hS rfl ?_
   refine wp_skip ?_
   refine hK795 _ _ ?_
   refine wp_region_lit ?_
   revert aa
   refine qM hR ?_
   intro aa hS
   refine sA hS hR adQ (by decide) ?_; clear hS; intro aa hS
   revert aa
   refine qN hR ?_
   intro aa hS
   refine wpList_nil ?_
   
   refine ⟨i + 1, ?_, ?_, hS.le (Le.cons rfl (Le.nilapp (Le.cons rfl (Le.cons rfl (Le.nil _))))), hR.sub (Ex.nilapp exQ)⟩
   ·
    exact ⟨by omega, hnx⟩
   ·
    omega
 ·
  intro hg hS
  have hno := rcR_none.2 (no_all (R := T.R) (P := fun p => p.1 ≠ a) (i := i) (by omega) hI.2)
  refine condF hS rfl ?_
  refine wp_exit ?_
  refine hK790 _ _ ?_
  refine wp_seq_k ?_; intro K798 hK798
  refine wp_region_lit ?_
  revert aa
  refine qN hR ?_
  refine qN hR ?_
  intro aa hS
  refine wpList_nil ?_
  refine hK798 _ _ ?_
  refine wp_ret ?_
  repeat first | with_reducible refine thenR ?_ | with_reducible refine blockR ?_ | with_reducible refine scopeR ?_
  refine retN (fn := Try.f62) (e := .ret) (.inl rfl) Try.results62 hS hR ⟨_, .cons (.tmp rfl) (.cons (.tmp rfl) (.nil)), rfl, ?_⟩
  rw [hno]
  exact ⟨rfl, Sep.refI' (t := rt) (q := q) (T := T) (hR.sub exQ)⟩
set_option maxHeartbeats 2000000 in
set_option maxRecDepth 20000 in
theorem rfAll_ok {S lim : Nat} {q : RQ} {T : So} {l : List HP} {w : World} (hB : RB T) (hF : SF S lim T) (hR : Sep (refS rt q T :: l) w) : CallR Try.prog 63 [refV S lim q T] w (fun v w' => ∃ r c, v = .slice r (allR T.R).length c ∧ Sep (sls r (allR T.R).length c 28 1 ((allR T.R).flatMap eUi) :: refS rt q T :: l) w') := by
 refine enter Try.func63 rfl Try.ntmps63 (Nat.le_of_ble_eq_true rfl) ?_; intro aa hS
 have hBo := hB.o
 have hBr := hB.r
 have hBf := hB.f
 replace hR := (hR.pk (r := refS _ _ _) pkQ).refE
 have hAl := hF.allLen
 have hAm := fun x => hF.allMem (a := x)
 have hAs := hF.allSorted
 obtain ⟨L, hL⟩ : ∃ y, allR T.R = y := ⟨_, rfl⟩
 rw [hL] at hAl hAm hAs ⊢
 refine wp_seq_k ?_; intro K799 hK799
 refine wp_region_lit ?_
 refine sB (Bbox hS hR rfl (by rfl) (by decide) ?_); clear hS hR; intro aa ww bb1 hS hR
 revert aa
 refine qN hR ?_
 intro aa hS
 refine wpList_nil ?_
 refine hK799 _ _ ?_
 refine wp_seq_k ?_; intro K800 hK800
 refine wp_region_lit ?_
 revert aa
 refine qN hR ?_
 intro aa hS
 refine wpList_nil ?_
 refine hK800 _ _ ?_
 refine wp_block ?_
 replace hR := hR.slsNil (T := 28) (sz := 1)
 replace hR := hR.pk (r := sls none 0 0 28 1 []) pkQ
 refine loopI (X := Nat × Option Addr × Nat) [(1, _)] (fun x => [(3, .slice x.2.1 (L.take x.1).length x.2.2)]) (fun x => [sls x.2.1 (L.take x.1).length x.2.2 28 1 ((L.take x.1).flatMap eUi)]) _ (fun x => x.1 ≤ L.length) (fun x => L.length - x.1) (0, none, 0) (Nat.zero_le _) (hS.le (Le.cons rfl (Le.nilapp (Le.cons rfl (Le.nil _))))) hR ?_
 clear hS hR; rintro ⟨j, r0, c0⟩ aa ww hI hS hR; dsimp only [List.cons_append, List.nil_append] at hI hS hR
 have hJ : j ≤ L.length := hI
 refine wp_block ?_
 refine wp_seq_k ?_; intro K802 hK802
 refine wp_region_lit ?_
 revert aa
 refine qN hR ?_
 refine qN hR ?_
 intro aa hS
 refine wpList_nil ?_
 refine hK802 _ _ ?_
 refine wp_seq_k ?_; intro K803 hK803
 refine wp_seq_k ?_; intro K804 hK804
 refine wp_region_lit ?_
 revert aa
 refine qN hR ?_
 intro aa hS
 refine wpList_nil ?_
 refine hK804 _ _ ?_
 refine wp_block ?_
 refine loopI (X := Nat × Option Int) [(1, _), (3, _)] (fun x => [(4, .bool x.2.isSome), (5, .int .u32 (x.2.getD 0)), (6, .int .i64 (x.1 : Int))]) (fun x => []) _ (fun x => x.1 ≤ T.R.length ∧ SelI L T.R j x.1 x.2) (fun x => T.R.length - x.1) (0, none) ⟨Nat.zero_le _, SelI.start⟩ (hS.le (Le.cons rfl (Le.cons rfl (Le.cons rfl (Le.nilapp (Le.cons rfl (Le.cons rfl (Le.nil _)))))))) hR ?_
 clear hS hR; rintro ⟨i, z⟩ aa ww hI hS hR; dsimp only [List.cons_append, List.nil_append] at hI hS hR
 refine wp_seq_k ?_; intro K806 hK806
 refine wp_seq_k ?_; intro K807 hK807
 refine wp_region_lit ?_
 revert aa
 refine qM hR ?_
 refine qA hR rfl (fun _ hS => Yld.fieldAddr hS rfl 3 Try.underlying80 rfl rfl info78 (by decide)) ?_
 refine qA hR rfl (fun _ hS => Yld.load1 hS rfl Try.underlying78 rfl rdQ) ?_
 refine qA hR rfl (fun _ hS => Yld.len hS rfl Try.underlying78) ?_
 refine qA hR rfl (fun _ hS => Yld.lss hS rfl rfl) ?_
 intro aa hS
 refine wpList_nil ?_
 refine hK807 _ _ ?_
 refine hS.splitB (t := 12) rfl ?_ ?_ <;> clear hS
 ·
  intro hg hS
  obtain ⟨⟨pa, ps⟩, hpe⟩ : ∃ y : Int × Nat, T.R[i]'(by omega) = y := ⟨_, rfl⟩
  have hpL : pa ∈ L := (hAm pa).2 ⟨_, List.getElem_mem (show i < T.R.length by omega), by rw [hpe]⟩
  have hjl : (L.take j).length = j := by rw [List.length_take]; omega
  have e1 : (T.R[i]'(by omega)).1 = pa := by rw [hpe]
  have hiR : i < T.R.length := by omega
  refine condT hS rfl ?_
  refine wp_skip ?_
  refine hK806 _ _ ?_
  refine wp_seq_k ?_; intro K808 hK808
  refine wp_block ?_
  refine wp_seq_k ?_; intro K809 hK809
  refine wp_region_lit ?_
  revert aa
  refine qA hR rfl (fun _ hS => Yld.fieldAddr hS rfl 3 Try.underlying80 rfl rfl info78 (by decide)) ?_
  refine qA hR rfl (fun _ hS => Yld.load1 hS rfl Try.underlying78 rfl rdQ) ?_
  refine qM hR ?_
  refine qA hR rfl (fun _ hS => ilQ 2 (i) Try.underlying78 info128) ?_
  refine qA hR rfl (fun _ hS => Yld.fieldAddr hS rfl 0 Try.underlying128 rfl rfl info28 (by decide)) ?_
  intro aa hS
  refine sA hS hR (Yld.load1 hS rfl Try.underlying28 rfl rdQ) (by decide) ?_; clear hS; intro aa hS
  rw [hpe] at hS
  revert aa
  refine qN hR ?_
  intro aa hS
  refine wpList_nil ?_
  refine hK809 _ _ ?_
  refine wp_seq_k ?_; intro K810 hK810
  refine wp_region_lit ?_
  revert aa
  refine qM hR ?_
  refine qA hR rfl (fun _ hS => Yld.len hS rfl Try.underlying46) ?_
  refine qA hR rfl (fun _ hS => Yld.eql hS rfl rfl) ?_
  refine qM hR ?_
  intro aa hS
  refine hS.splitB (t := 24) rfl ?_ ?_ <;> clear hS
  ·
   intro hg hS
   have hnew : pa ∉ L.take j := by rw [show j = 0 from by omega]; simp
   revert aa
   refine qZ ?_
   refine qZ ?_
   refine qZ ?_
   refine qZ ?_
   refine qZ ?_
   refine qZ ?_
   refine qZ ?_
   refine qZ ?_
   refine qA hR rfl (fun _ hS => Yld.pickT hS rfl rfl) ?_
   refine qM hR ?_
   refine qMg hR ?_
   refine qAg hR rfl rfl rfl (fun _ hS => Yld.not hS rfl) ?_
   refine qMg hR ?_
   intro aa hS
   refine hS.splitB (t := 37) rfl ?_ ?_ <;> clear hS
   ·
    intro hg hS
    have hz : z = none := by cases z with
     | none => rfl
     | some y => simp at hg
    subst hz
    have hsel := hI.2.new hiR (by rw [e1]; exact hnew) (by intro y hy; cases hy)
    rw [e1] at hsel
    revert aa
    refine qZ ?_
    refine qZ ?_
    refine qZ ?_
    refine qAg hR rfl rfl rfl (fun _ hS => Yld.pickT hS rfl rfl) ?_
    refine qA hR rfl (fun _ hS => Yld.pickT hS rfl rfl) ?_
    intro aa hS
    refine wpList_nil ?_
    refine hK810 _ _ ?_
    refine condT hS rfl ?_
    refine wp_region_lit ?_
    revert aa
    refine qM hR ?_
    refine qN hR ?_
    refine qN hR ?_
    intro aa hS
    refine wpList_nil ?_
    refine hK808 _ _ ?_
    refine wp_region_lit ?_
    revert aa
    refine qM hR ?_
    intro aa hS
    refine sA hS hR adQ (by decide) ?_; clear hS; intro aa hS
    revert aa
    refine qN hR ?_
    intro aa hS
    refine wpList_nil ?_
    
    refine ⟨(i + 1, some pa), ?_, ?_, hS.le (Le.cons rfl (Le.cons rfl (Le.cons rfl (Le.nilapp (Le.cons rfl (Le.cons rfl (Le.nil _))))))), hR.sub (Ex.nilapp exQ)⟩
    ·
     dsimp only; exact ⟨by omega, hsel⟩
    ·
     dsimp only; omega
   ·
    intro hg hS
    obtain ⟨m, rfl⟩ : ∃ m, z = some m := by cases z with
     | none => simp at hg
     | some y => exact ⟨y, rfl⟩
    revert aa
    refine qMg hR ?_
    refine qMg hR ?_
    refine qAg hR rfl rfl rfl (fun _ hS => Yld.lss hS rfl rfl) ?_
    refine qAg hR rfl rfl rfl (fun _ hS => Yld.pickF hS rfl rfl) ?_
    refine qA hR rfl (fun _ hS => Yld.pickT hS rfl rfl) ?_
    intro aa hS
    refine wpList_nil ?_
    refine hK810 _ _ ?_
    refine hS.splitB (t := 42) rfl ?_ ?_ <;> clear hS
    ·
     intro hg hS
     have hsel := hI.2.new hiR (by rw [e1]; exact hnew) (by intro y hy; cases hy; rw [e1]; exact hg)
     rw [e1] at hsel
     refine condT hS rfl ?_
     refine wp_region_lit ?_
     revert aa
     refine qM hR ?_
     refine qN hR ?_
     refine qN hR ?_
     intro aa hS
     refine wpList_nil ?_
     refine hK808 _ _ ?_
     refine wp_region_lit ?_
     revert aa
     refine qM hR ?_
     intro aa hS
     refine sA hS hR adQ (by decide) ?_; clear hS; intro aa hS
     revert aa
     refine qN hR ?_
     intro aa hS
     refine wpList_nil ?_
     
     refine ⟨(i + 1, some pa), ?_, ?_, hS.le (Le.cons rfl (Le.cons rfl (Le.cons rfl (Le.nilapp (Le.cons rfl (Le.cons rfl (Le.nil _))))))), hR.sub (Ex.nilapp exQ)⟩
     ·
      dsimp only; exact ⟨by omega, hsel⟩
     ·
      dsimp only; omega
    ·
     intro hg hS
     have hsel := hI.2.more hiR (by rw [e1]; exact Int.not_lt.1 (by first | exact hg | exact Int.not_lt.2 hg))
     refine condF hS rfl ?_
     refine wp_skip ?_
     refine hK808 _ _ ?_
     refine wp_region_lit ?_
     revert aa
     refine qM hR ?_
     intro aa hS
     refine sA hS hR adQ (by decide) ?_; clear hS; intro aa hS
     revert aa
     refine qN hR ?_
     intro aa hS
     refine wpList_nil ?_
     
     refine ⟨(i + 1, some m), ?_, ?_, hS.le (Le.cons rfl (Le.cons rfl (Le.cons rfl (Le.nilapp (Le.cons rfl (Le.cons rfl (Le.nil _))))))), hR.sub (Ex.nilapp exQ)⟩
     ·
      dsimp only; exact ⟨by omega, hsel⟩
     ·
      dsimp only; omega
  ·
   intro hg hS
   obtain ⟨k, rfl⟩ : ∃ k, j = k + 1 := ⟨j - 1, by omega⟩
   have hki : k + 1 - 1 < L.length := by omega
   have hnw := new_iff (j := k) (a := pa) hAs (by omega) hpL
   revert aa
   refine qMg hR ?_
   refine qMg hR ?_
   refine qMg hR ?_
   refine qAg hR rfl rfl rfl (fun _ hS => Yld.len hS rfl Try.underlying46) ?_
   intro aa hS
   refine sAg hS hR rfl rfl suQ (by decide) ?_; clear hS; intro aa hS
   refine sAg hS hR rfl rfl ((ilQ 1 (k) Try.underlying46 info28)) (by decide) ?_; clear hS; intro aa hS
   refine sAg hS hR rfl rfl (Yld.load1 hS rfl Try.underlying28 rfl rdQ) (by decide) ?_; clear hS; intro aa hS
   rw [show (L.take (k + 1))[k]'(by rw [List.length_take]; omega) = L[k]'(by omega) from List.getElem_take] at hS
   revert aa
   refine qAg hR rfl rfl rfl (fun _ hS => Yld.gtr hS rfl rfl) ?_
   refine qA hR rfl (fun _ hS => Yld.pickF hS rfl rfl) ?_
   refine qM hR ?_
   intro aa hS
   refine hS.splitB (t := 34) rfl ?_ ?_ <;> clear hS
   ·
    intro hg hS
    have hnew := hnw.1 hg
    revert aa
    refine qMg hR ?_
    refine qAg hR rfl rfl rfl (fun _ hS => Yld.not hS rfl) ?_
    refine qMg hR ?_
    intro aa hS
    refine hS.splitB (t := 37) rfl ?_ ?_ <;> clear hS
    ·
     intro hg hS
     have hz : z = none := by cases z with
      | none => rfl
      | some y => simp at hg
     subst hz
     have hsel := hI.2.new hiR (by rw [e1]; exact hnew) (by intro y hy; cases hy)
     rw [e1] at hsel
     revert aa
     refine qZ ?_
     refine qZ ?_
     refine qZ ?_
     refine qAg hR rfl rfl rfl (fun _ hS => Yld.pickT hS rfl rfl) ?_
     refine qA hR rfl (fun _ hS => Yld.pickT hS rfl rfl) ?_
     intro aa hS
     refine wpList_nil ?_
     refine hK810 _ _ ?_
     refine condT hS rfl ?_
     refine wp_region_lit ?_
     revert aa
     refine qM hR ?_
     refine qN hR ?_
     refine qN hR ?_
     intro aa hS
     refine wpList_nil ?_
     refine hK808 _ _ ?_
     refine wp_region_lit ?_
     revert aa
     refine qM hR ?_
     intro aa hS
     refine sA hS hR adQ (by decide) ?_; clear hS; intro aa hS
     revert aa
     refine qN hR ?_
     intro aa hS
     refine wpList_nil ?_
     
     refine ⟨(i + 1, some pa), ?_, ?_, hS.le (Le.cons rfl (Le.cons rfl (Le.cons rfl (Le.nilapp (Le.cons rfl (Le.cons rfl (Le.nil _))))))), hR.sub (Ex.nilapp exQ)⟩
     ·
      dsimp only; exact ⟨by omega, hsel⟩
     ·
      dsimp only; omega
    ·
     intro hg hS
     obtain ⟨m, rfl⟩ : ∃ m, z = some m := by cases z with
      | none => simp at hg
      | some y => exact ⟨y, rfl⟩
     revert aa
     refine qMg hR ?_
     refine qMg hR ?_
     refine qAg hR rfl rfl rfl (fun _ hS => Yld.lss hS rfl rfl) ?_
     refine qAg hR rfl rfl rfl (fun _ hS => Yld.pickF hS rfl rfl) ?_
     refine qA hR rfl (fun _ hS => Yld.pickT hS rfl rfl) ?_
     intro aa hS
     refine wpList_nil ?_
     refine hK810 _ _ ?_
     refine hS.splitB (t := 42) rfl ?_ ?_ <;> clear hS
     ·
      intro hg hS
      have hsel := hI.2.new hiR (by rw [e1]; exact hnew) (by intro y hy; cases hy; rw [e1]; exact hg)
      rw [e1] at hsel
      refine condT hS rfl ?_
      refine wp_region_lit ?_
      revert aa
      refine qM hR ?_
      refine qN hR ?_
      refine qN hR ?_
      intro aa hS
      refine wpList_nil ?_
      refine hK808 _ _ ?_
      refine wp_region_lit ?_
      revert aa
      refine qM hR ?_
      intro aa hS
      refine sA hS hR adQ (by decide) ?_; clear hS; intro aa hS
      revert aa
      refine qN hR ?_
      intro aa hS
      refine wpList_nil ?_
      
      refine ⟨(i + 1, some pa), ?_, ?_, hS.le (Le.cons rfl (Le.cons rfl (Le.cons rfl (Le.nilapp (Le.cons rfl (Le.cons rfl (Le.nil _))))))), hR.sub (Ex.nilapp exQ)⟩
      ·
       dsimp only; exact ⟨by omega, hsel⟩
      ·
       dsimp only; omega
     ·
      intro hg hS
      have hsel := hI.2.more hiR (by rw [e1]; exact Int.not_lt.1 (by first | exact hg | exact Int.not_lt.2 hg))
      refine condF hS rfl ?_
      refine wp_skip ?_
      refine hK808 _ _ ?_
      refine wp_region_lit ?_
      revert aa
      refine qM hR ?_
      intro aa hS
      refine sA hS hR adQ (by decide) ?_; clear hS; intro aa hS
      revert aa
      refine qN hR ?_
      intro aa hS
      refine wpList_nil ?_
      
      refine ⟨(i + 1, some m), ?_, ?_, hS.le (Le.cons rfl (Le.cons rfl (Le.cons rfl (Le.nilapp (Le.cons rfl (Le.cons rfl (Le.nil _))))))), hR.sub (Ex.nilapp exQ)⟩
      ·
       dsimp only; exact ⟨by omega, hsel⟩
      ·
       dsimp only; omega
   ·
    intro hg hS
    have hsel := hI.2.old hiR (by rw [e1]; exact Decidable.not_not.1 fun h => absurd (hnw.2 h) (by omega))
    revert aa
    refine qZ ?_
    refine qZ ?_
    refine qZ ?_
    refine qU ?_
    refine qU ?_
    refine qU ?_
    refine qZ ?_
    refine qA hR rfl (fun _ hS => Yld.pickF hS rfl rfl) ?_
    intro aa hS
    refine wpList_nil ?_
    refine hK810 _ _ ?_
    refine condF hS rfl ?_
    refine wp_skip ?_
    refine hK808 _ _ ?_
    refine wp_region_lit ?_
    revert aa
    refine qM hR ?_
    intro aa hS
    refine sA hS hR adQ (by decide) ?_; clear hS; intro aa hS
    revert aa
    refine qN hR ?_
    intro aa hS
    refine wpList_nil ?_
    
    refine ⟨(i + 1, z), ?_, ?_, hS.le (Le.cons rfl (Le.cons rfl (Le.cons rfl (Le.nilapp (Le.cons rfl (Le.cons rfl (Le.nil _))))))), hR.sub (Ex.nilapp exQ)⟩
    ·
     dsimp only; exact ⟨by omega, hsel⟩
    ·
     dsimp only; omega
 ·
  intro hg hS
  refine condF hS rfl ?_
  refine wp_exit ?_
  refine hK803 _ _ ?_
  refine wp_seq_k ?_; intro K811 hK811
  refine wp_seq_k ?_; intro K812 hK812
  refine wp_region_lit ?_
  revert aa
  refine qM hR ?_
  refine qA hR rfl (fun _ hS => Yld.not hS rfl) ?_
  intro aa hS
  refine wpList_nil ?_
  refine hK812 _ _ ?_
  refine hS.splitB (t := 45) rfl ?_ ?_ <;> clear hS
  ·
   intro hg hS
   have hz : z = none := by cases z with
    | none => rfl
    | some y => simp at hg
   subst hz
   have hd := hI.2.done (by omega) hAm hAs hJ
   rw [hd, List.take_length] at hS hR
   refine condT hS rfl ?_
   refine wp_seq_k ?_; intro K813 hK813
   refine wp_region_lit ?_
   revert aa
   refine qM hR ?_
   refine qN hR ?_
   intro aa hS
   refine wpList_nil ?_
   refine hK813 _ _ ?_
   refine wp_ret ?_
   repeat first | with_reducible refine thenR ?_ | with_reducible refine blockR ?_ | with_reducible refine scopeR ?_
   refine ret1 (fn := Try.f63) (e := .ret) (.inl rfl) Try.results63 hS hR ⟨_, (.tmp rfl), ?_⟩
   replace hR := Sep.refI' (t := rt) (q := q) (T := T) (hR.sub exQ)
   exact ⟨r0, c0, rfl, (hR.sub exQ)⟩
  ·
   intro hg hS
   obtain ⟨m, rfl⟩ : ∃ m, z = some m := by cases z with
    | none => simp at hg
    | some y => exact ⟨y, rfl⟩
   obtain ⟨hjL, hjm⟩ := hI.2.next (by omega) hAm hAs hJ
   have htk := List.take_succ_eq_append_getElem hjL
   rw [hjm] at htk
   have hjl : (L.take j).length = j := by rw [List.length_take]; omega
   refine condF hS rfl ?_
   refine wp_skip ?_
   refine hK811 _ _ ?_
   refine wp_region_lit ?_
   revert aa
   refine qM hR ?_
   refine qM hR ?_
   intro aa hS
   refine sB (BbuildSlice hS hR rfl (bls46_1_0 _) (by decide) ?_); clear hS hR; intro aa ww bb49 hS hR
   refine sB (BappendR (sz := 1) hS hR rfl rfl Try.underlying46 info28 rfl rfl (by rfl) pkQ (XC.one (m) pkQ (by rfl) rfl) (by intro _; rfl) (by show (_ + _) * 4 ≤ _; first | omega | (simp only [List.length_take, List.length_append, List.length_drop, List.length_cons, List.length_nil, List.length_map]; omega)) (by first | omega | (simp only [List.length_take, List.length_append, List.length_drop, List.length_cons, List.length_nil, List.length_map]; omega)) (by first | rfl | (simp; done) | (simp; omega)) (by decide) ?_); clear hS hR; intro aa ww r50 c50 hS hR
   rw [← htk] at hS hR
   revert aa
   refine qN hR ?_
   intro aa hS
   refine wpList_nil ?_
   
   refine ⟨(j + 1, _, _), ?_, ?_, hS.le (Le.cons rfl (Le.nilapp (Le.cons rfl (Le.nil _)))), hR.sub (Ex.take pkQ (Ex.nilapp exQ))⟩
   ·
    dsimp only; omega
   ·
    dsimp only; omega
end Go.Proofs.Ythjfclljjcpikaa.Sx
