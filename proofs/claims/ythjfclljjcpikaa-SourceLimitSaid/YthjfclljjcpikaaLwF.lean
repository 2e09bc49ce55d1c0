/-
 
-/
import Derived.Test.YthjfclljjcpikaaLwB
import Derived.Test.YthjfclljjcpikaaPi
import Derived.Test.YthjfclljjcpikaaPf
namespace Go.Proofs.Ythjfclljjcpikaa.Sx
open Go
set_option linter.unusedVariables false
set_option linter.unusedSimpArgs false

theorem info111 : Try.prog.info? 111 = some Try.t111 := by kernel_rfl

set_option maxHeartbeats 1000000 in
set_option maxRecDepth 20000 in
theorem counts_ok {T : So} {S lim b : Nat} {ow : Nat → Nat} {ro : Option Addr} {co : Nat} {l : List HP} {w : World} (hOw : OwI T S ow) (hSF : SF S lim T) (hLow : Low T) (h2 : S ≤ 4096) (hR : Sep (sourceA ss b S lim T :: sls ro S co 3 1 ((tabN S ow).flatMap e1) :: l) w) : CallR Try.prog 24 [.pointer (some ⟨b, 0, none⟩), .slice ro S co] w (fun v w' => v = .bool true ∧ Sep (sourceA ss b S lim T :: sls ro S co 3 1 ((tabN S ow).flatMap e1) :: l) w') := by
 refine enter Try.func24 rfl Try.ntmps24 (Nat.le_of_ble_eq_true rfl) ?_; intro aa hS
 have hsr := hSF.srcs hLow
 have hol := hSF.olen
 have hsl1 := fun a => Nat.le_trans (slO_len (O := T.O) (a := a)) hol
 refine wp_seq_k ?_; intro K695 hK695
 refine wp_region_lit ?_
 refine sA hS hR (Yld.assign hS rfl) (by decide) ?_; clear hS; intro aa hS
 refine wpList_nil ?_
 refine hK695 _ _ ?_
 refine wp_seq_k ?_; intro K696 hK696
 refine wp_region_lit ?_
 refine sB (Balloc hS hR info111 (by rfl) (by rfl) (by decide) ?_); clear hS hR; intro aa ww bb5 hS hR
 replace hR := hR.pk (r := blk bb5 _ _) pkQ
 change Sep (blk bb5 ((tab 9 (fun j => ((manyN ow 0 j : Nat) : Int))).flatMap e1) 111 :: _) _ at hR
 refine wpList_nil ?_
 refine hK696 _ _ ?_
 refine wp_seq_k ?_; intro K697 hK697
 refine wp_seq_k ?_; intro K698 hK698
 refine wp_region_lit ?_
 refine sA hS hR (Yld.move hS rfl) (by decide) ?_; clear hS; intro aa hS
 refine sA hS hR (Yld.len hS rfl Try.underlying40) (by decide) ?_; clear hS; intro aa hS
 refine sA hS hR (Yld.move hS rfl) (by decide) ?_; clear hS; intro aa hS
 refine wpList_nil ?_
 refine hK698 _ _ ?_
 refine wp_block ?_
 replace hR := hR.pk (r := blk bb5 ((tab 9 (fun j => ((manyN ow 0 j : Nat) : Int))).flatMap e1) 111) pkQ
 refine loopI (X := Nat) [(0, _), (5, _), (13, _), (14, _)] (fun x => [(15, .int .i64 (x : Int))]) (fun x => [blk bb5 ((tab 9 (fun j => ((manyN ow x j : Nat) : Int))).flatMap e1) 111]) _ (fun x => x ≤ S) (fun x => S - x) 0 (Nat.zero_le _) (hS.le (Le.cons rfl (Le.nilapp (Le.cons rfl (Le.cons rfl (Le.cons rfl (Le.cons rfl (Le.nil _)))))))) hR ?_
 clear hS hR; rintro i aa ww hI hS hR; dsimp only [List.cons_append, List.nil_append] at hI hS hR
 refine wp_seq_k ?_; intro K700 hK700
 refine wp_region_lit ?_
 refine sA hS hR (Yld.lss hS rfl rfl) (by decide) ?_; clear hS; intro aa hS
 refine wpList_nil ?_
 refine hK700 _ _ ?_
 refine wp_seq_k ?_; intro K701 hK701
 refine hS.splitB (t := 16) rfl ?_ ?_ <;> clear hS
 ·
  intro hg hS
  have hol8 := hOw.le hSF hLow (i := i) (by omega)
  have hml := many_le (ow := ow) (i := i) (j := ow i)
  refine condT hS rfl ?_
  refine wp_skip ?_
  refine hK701 _ _ ?_
  refine wp_seq_k ?_; intro K702 hK702
  refine wp_block ?_
  refine wp_seq_k ?_; intro K703 hK703
  refine wp_region_lit ?_
  refine sA hS hR (Yld.move hS rfl) (by decide) ?_; clear hS; intro aa hS
  refine sA hS hR ((by first | exact Yld.indexL (sz := 1) (i) hS rfl rfl Try.underlying40 info3 pkQ rfl (by first | rfl | omega) (by omega) | exact Yld.indexB (sz := 1) (i) hS rfl rfl Try.underlying40 info3 rfl (by first | rfl | omega) (by omega))) (by decide) ?_; clear hS; intro aa hS
  refine sA hS hR (Yld.load1 hS rfl Try.underlying3 rfl (Rd.rec0 (k := i) (xs := tabN S ow) (v := .int .i64 ((ow i : Nat) : Int)) pkQ (by intro _; rfl) (by rw [tabN_len]; omega) (by rw [tabN_get]; rfl))) (by decide) ?_; clear hS; intro aa hS
  refine sA hS hR (Yld.assign hS rfl) (by decide) ?_; clear hS; intro aa hS
  refine sA hS hR (Yld.assign hS rfl) (by decide) ?_; clear hS; intro aa hS
  refine wpList_nil ?_
  refine hK703 _ _ ?_
  refine wp_seq_k ?_; intro K704 hK704
  refine wp_region_lit ?_
  refine sA hS hR (Yld.move hS rfl) (by decide) ?_; clear hS; intro aa hS
  refine sA hS hR (Yld.to (u := .pointer (some ⟨bb5, ow i * 1, none⟩)) (Yld.indexArr hS rfl rfl Try.underlying111 info3 (by omega) (by omega)) (by have h1 : (Try.t3).size = 1 := rfl; rw [h1]; congr 3 <;> omega)) (by decide) ?_; clear hS; intro aa hS
  refine sA hS hR (Yld.load1 hS rfl Try.underlying3 rfl (Rd.flat0 (sz := 1) (k := ow i) (xs := tab 9 (fun j => ((manyN ow i j : Nat) : Int))) (v := .int .i64 ((manyN ow i (ow i) : Nat) : Int)) pkQ (by intro _; rfl) (by rw [tab_len]; omega) (by rw [tab_get]; rfl))) (by decide) ?_; clear hS; intro aa hS
  refine sA hS hR ((by first | exact Yld.add64 hS rfl rfl (by omega) | exact Yld.add hS rfl rfl)) (by decide) ?_; clear hS; intro aa hS
  refine sA hS hR (Yld.to (u := .pointer (some ⟨bb5, ow i, none⟩)) (Yld.indexArr hS rfl rfl Try.underlying111 info3 (by omega) (by omega)) (by have h1 : (Try.t3).size = 1 := rfl; rw [h1]; congr 3 <;> omega)) (by decide) ?_; clear hS; intro aa hS
  refine sB (BstoreJ hS hR rfl rfl info3 rfl pkQ (by omega) ?_); clear hR; intro ww hR
  rw [many_step] at hR
  refine wpList_nil ?_
  refine hK704 _ _ ?_
  refine wp_seq_k ?_; intro K705 hK705
  refine wp_region_lit ?_
  by_cases hn : (ofO T.O (i : Int)).isSome = true
  ·
   obtain ⟨q0, hoo⟩ := Option.isSome_iff_exists.1 hn
   have hq0 := hLow.of hSF hoo
   have how := owO_some hoo
   rw [← hOw i (by omega)] at how
   refine sA hS hR (Yld.move hS rfl) (by decide) ?_; clear hS; intro aa hS
   obtain ⟨q0, hoo⟩ := Option.isSome_iff_exists.1 hn
   have hq0 := hLow.of hSF hoo
   have how := owO_some hoo
   rw [← hOw i (by omega)] at how
   refine sA hS hR (Yld.move hS rfl) (by decide) ?_; clear hS; intro aa hS
   refine sB (Bcall hS rfl Try.call21 (soOf_ok (x := (i : Int)) (hR.pk (r := sourceA _ b _ _ _) pkQ)) (by decide) ?_); clear hS; intro aa ww vv hS hp
   clear hR
   obtain ⟨rfl, hR⟩ := hp
   rw [hoo] at hS
   dsimp only [Option.getD, Option.isSome] at hS
   obtain ⟨q0, hoo⟩ := Option.isSome_iff_exists.1 hn
   have hq0 := hLow.of hSF hoo
   have how := owO_some hoo
   rw [← hOw i (by omega)] at how
   refine sA hS hR (Yld.move hS rfl) (by decide) ?_; clear hS; intro aa hS
   refine sA hS hR (Yld.extract hS rfl rfl) (by decide) ?_; clear hS; intro aa hS
   refine sA hS hR (Yld.extract hS rfl rfl) (by decide) ?_; clear hS; intro aa hS
   replace hS := hS.sayB (t := 30) true rfl (by rfl)
   refine sA hS hR (Yld.assign hS rfl) (by decide) ?_; clear hS; intro aa hS
   refine sA hS hR (Yld.assign hS rfl) (by decide) ?_; clear hS; intro aa hS
   refine wpList_nil ?_
   refine hK705 _ _ ?_
   refine wp_seq_k ?_; intro K706 hK706
   refine wp_region_lit ?_
   obtain ⟨q0, hoo⟩ := Option.isSome_iff_exists.1 hn
   have hq0 := hLow.of hSF hoo
   have how := owO_some hoo
   rw [← hOw i (by omega)] at how
   refine sA hS hR (Yld.move hS rfl) (by decide) ?_; clear hS; intro aa hS
   obtain ⟨q0, hoo⟩ := Option.isSome_iff_exists.1 hn
   have hq0 := hLow.of hSF hoo
   have how := owO_some hoo
   rw [← hOw i (by omega)] at how
   refine sA hS hR (Yld.move hS rfl) (by decide) ?_; clear hS; intro aa hS
   refine sA hS hR (Yld.gtr hS rfl rfl) (by decide) ?_; clear hS; intro aa hS
   replace hS := hS.sayB (t := 33) true rfl (by exact decide_eq_true (by omega))
   refine sA hS hR (Yld.neqB hS rfl rfl Try.underlying4) (by decide) ?_; clear hS; intro aa hS
   replace hS := hS.sayB (t := 34) false rfl (by rfl)
   obtain ⟨q0, hoo⟩ := Option.isSome_iff_exists.1 hn
   have hq0 := hLow.of hSF hoo
   have how := owO_some hoo
   rw [← hOw i (by omega)] at how
   refine sA hS hR (Yld.move hS rfl) (by decide) ?_; clear hS; intro aa hS
   obtain ⟨q0, hoo⟩ := Option.isSome_iff_exists.1 hn
   have hq0 := hLow.of hSF hoo
   have how := owO_some hoo
   rw [← hOw i (by omega)] at how
   refine sAg hS hR rfl rfl (Yld.move hS rfl) (by decide) ?_; clear hS; intro aa hS
   obtain ⟨q0, hoo⟩ := Option.isSome_iff_exists.1 hn
   have hq0 := hLow.of hSF hoo
   have how := owO_some hoo
   rw [← hOw i (by omega)] at how
   refine sAg hS hR rfl rfl (Yld.move hS rfl) (by decide) ?_; clear hS; intro aa hS
   obtain ⟨q0, hoo⟩ := Option.isSome_iff_exists.1 hn
   have hq0 := hLow.of hSF hoo
   have how := owO_some hoo
   rw [← hOw i (by omega)] at how
   refine sAg hS hR rfl rfl (Yld.move hS rfl) (by decide) ?_; clear hS; intro aa hS
   refine sAg hS hR rfl rfl ((by first | exact Yld.to (Yld.convInt hS rfl rfl Try.underlying3) (congrArg (Value.int .i64) (IntWalk.i64_in _ (by omega))) | exact Yld.convInt hS rfl rfl Try.underlying3)) (by decide) ?_; clear hS; intro aa hS
   refine sAg hS hR rfl rfl ((by first | exact Yld.add64 hS rfl rfl (by omega) | exact Yld.add hS rfl rfl)) (by decide) ?_; clear hS; intro aa hS
   obtain ⟨q0, hoo⟩ := Option.isSome_iff_exists.1 hn
   have hq0 := hLow.of hSF hoo
   have how := owO_some hoo
   rw [← hOw i (by omega)] at how
   refine sAg hS hR rfl rfl (Yld.move hS rfl) (by decide) ?_; clear hS; intro aa hS
   refine sAg hS hR rfl rfl (Yld.neq hS rfl rfl) (by decide) ?_; clear hS; intro aa hS
   replace hS := hS.sayB (t := 42) false rfl (by exact decide_eq_false (by omega))
   refine sAg hS hR rfl rfl (Yld.pickT hS rfl rfl) (by decide) ?_; clear hS; intro aa hS
   refine sA hS hR (Yld.pickF hS rfl rfl) (by decide) ?_; clear hS; intro aa hS
   refine wpList_nil ?_
   refine hK706 _ _ ?_
   refine condF hS rfl ?_
   refine wp_skip ?_
   refine hK702 _ _ ?_
   refine wp_region_lit ?_
   refine sA hS hR ((by first | exact Yld.add64 hS rfl rfl (by omega) | exact Yld.add hS rfl rfl)) (by decide) ?_; clear hS; intro aa hS
   refine sA hS hR (Yld.move hS rfl) (by decide) ?_; clear hS; intro aa hS
   refine wpList_nil ?_
   
   refine ⟨i + 1, ?_, ?_, hS.le (Le.cons rfl (Le.nilapp (Le.cons rfl (Le.cons rfl (Le.cons rfl (Le.cons rfl (Le.nil _))))))), hR.sub (Ex.take pkQ (Ex.nilapp exQ))⟩
   ·
    omega
   ·
    omega
  ·
   have hoo : ofO T.O (i : Int) = none := by
    cases hv : ofO T.O (i : Int) with
    | none => rfl
    | some o => rw [hv] at hn; simp at hn
   have how := owO_none hoo
   rw [← hOw i (by omega)] at how
   refine sA hS hR (Yld.move hS rfl) (by decide) ?_; clear hS; intro aa hS
   have hoo : ofO T.O (i : Int) = none := by
    cases hv : ofO T.O (i : Int) with
    | none => rfl
    | some o => rw [hv] at hn; simp at hn
   have how := owO_none hoo
   rw [← hOw i (by omega)] at how
   refine sA hS hR (Yld.move hS rfl) (by decide) ?_; clear hS; intro aa hS
   refine sB (Bcall hS rfl Try.call21 (soOf_ok (x := (i : Int)) (hR.pk (r := sourceA _ b _ _ _) pkQ)) (by decide) ?_); clear hS; intro aa ww vv hS hp
   clear hR
   obtain ⟨rfl, hR⟩ := hp
   rw [hoo] at hS
   dsimp only [Option.getD, Option.isSome] at hS
   have hoo : ofO T.O (i : Int) = none := by
    cases hv : ofO T.O (i : Int) with
    | none => rfl
    | some o => rw [hv] at hn; simp at hn
   have how := owO_none hoo
   rw [← hOw i (by omega)] at how
   refine sA hS hR (Yld.move hS rfl) (by decide) ?_; clear hS; intro aa hS
   refine sA hS hR (Yld.extract hS rfl rfl) (by decide) ?_; clear hS; intro aa hS
   refine sA hS hR (Yld.extract hS rfl rfl) (by decide) ?_; clear hS; intro aa hS
   replace hS := hS.sayB (t := 30) false rfl (by rfl)
   refine sA hS hR (Yld.assign hS rfl) (by decide) ?_; clear hS; intro aa hS
   refine sA hS hR (Yld.assign hS rfl) (by decide) ?_; clear hS; intro aa hS
   refine wpList_nil ?_
   refine hK705 _ _ ?_
   refine wp_seq_k ?_; intro K707 hK707
   refine wp_region_lit ?_
   have hoo : ofO T.O (i : Int) = none := by
    cases hv : ofO T.O (i : Int) with
    | none => rfl
    | some o => rw [hv] at hn; simp at hn
   have how := owO_none hoo
   rw [← hOw i (by omega)] at how
   refine sA hS hR (Yld.move hS rfl) (by decide) ?_; clear hS; intro aa hS
   have hoo : ofO T.O (i : Int) = none := by
    cases hv : ofO T.O (i : Int) with
    | none => rfl
    | some o => rw [hv] at hn; simp at hn
   have how := owO_none hoo
   rw [← hOw i (by omega)] at how
   refine sA hS hR (Yld.move hS rfl) (by decide) ?_; clear hS; intro aa hS
   refine sA hS hR (Yld.gtr hS rfl rfl) (by decide) ?_; clear hS; intro aa hS
   replace hS := hS.sayB (t := 33) false rfl (by exact decide_eq_false (by omega))
   refine sA hS hR (Yld.neqB hS rfl rfl Try.underlying4) (by decide) ?_; clear hS; intro aa hS
   replace hS := hS.sayB (t := 34) false rfl (by rfl)
   have hoo : ofO T.O (i : Int) = none := by
    cases hv : ofO T.O (i : Int) with
    | none => rfl
    | some o => rw [hv] at hn; simp at hn
   have how := owO_none hoo
   rw [← hOw i (by omega)] at how
   refine sA hS hR (Yld.move hS rfl) (by decide) ?_; clear hS; intro aa hS
   have hoo : ofO T.O (i : Int) = none := by
    cases hv : ofO T.O (i : Int) with
    | none => rfl
    | some o => rw [hv] at hn; simp at hn
   have how := owO_none hoo
   rw [← hOw i (by omega)] at how
   refine sAg hS hR rfl rfl (Yld.move hS rfl) (by decide) ?_; clear hS; intro aa hS
   have hoo : ofO T.O (i : Int) = none := by
    cases hv : ofO T.O (i : Int) with
    | none => rfl
    | some o => rw [hv] at hn; simp at hn
   have how := owO_none hoo
   rw [← hOw i (by omega)] at how
   refine sAg hS hR rfl rfl (Yld.move hS rfl) (by decide) ?_; clear hS; intro aa hS
   have hoo : ofO T.O (i : Int) = none := by
    cases hv : ofO T.O (i : Int) with
    | none => rfl
    | some o => rw [hv] at hn; simp at hn
   have how := owO_none hoo
   rw [← hOw i (by omega)] at how
   refine sSkip hS rfl rfl rfl (by decide) ?_; clear hS; intro aa hS
   refine sSkip hS rfl rfl rfl (by decide) ?_; clear hS; intro aa hS
   refine sSkip hS rfl rfl rfl (by decide) ?_; clear hS; intro aa hS
   have hoo : ofO T.O (i : Int) = none := by
    cases hv : ofO T.O (i : Int) with
    | none => rfl
    | some o => rw [hv] at hn; simp at hn
   have how := owO_none hoo
   rw [← hOw i (by omega)] at how
   refine sSkip hS rfl rfl rfl (by decide) ?_; clear hS; intro aa hS
   refine sSkip hS rfl rfl rfl (by decide) ?_; clear hS; intro aa hS
   refine sAg hS hR rfl rfl (Yld.pickF hS rfl rfl) (by decide) ?_; clear hS; intro aa hS
   refine sA hS hR (Yld.pickF hS rfl rfl) (by decide) ?_; clear hS; intro aa hS
   refine wpList_nil ?_
   refine hK707 _ _ ?_
   refine condF hS rfl ?_
   refine wp_skip ?_
   refine hK702 _ _ ?_
   refine wp_region_lit ?_
   refine sA hS hR ((by first | exact Yld.add64 hS rfl rfl (by omega) | exact Yld.add hS rfl rfl)) (by decide) ?_; clear hS; intro aa hS
   refine sA hS hR (Yld.move hS rfl) (by decide) ?_; clear hS; intro aa hS
   refine wpList_nil ?_
   
   refine ⟨i + 1, ?_, ?_, hS.le (Le.cons rfl (Le.nilapp (Le.cons rfl (Le.cons rfl (Le.cons rfl (Le.cons rfl (Le.nil _))))))), hR.sub (Ex.take pkQ (Ex.nilapp exQ))⟩
   ·
    omega
   ·
    omega
 ·
  intro hg hS
  obtain rfl : S = i := by omega
  refine condF hS rfl ?_
  refine wp_exit ?_
  refine hK697 _ _ ?_
  refine wp_seq_k ?_; intro K708 hK708
  refine wp_region_lit ?_
  refine sA hS hR (Yld.assign hS rfl) (by decide) ?_; clear hS; intro aa hS
  refine wpList_nil ?_
  refine hK708 _ _ ?_
  refine wp_seq_k ?_; intro K709 hK709
  refine wp_seq_k ?_; intro K710 hK710
  refine wp_region_lit ?_
  refine sA hS hR (Yld.move hS rfl) (by decide) ?_; clear hS; intro aa hS
  refine wpList_nil ?_
  refine hK710 _ _ ?_
  refine wp_block ?_
  refine loopI (X := Nat) [(0, _), (5, _)] (fun x => [(10, .int .i64 ((srcN T x : Nat) : Int)), (46, .int .u32 (x : Int))]) (fun x => []) _ (fun x => x ≤ 8) (fun x => 8 - x) 0 (Nat.zero_le _) (hS.le (Le.cons rfl (Le.cons rfl (Le.nilapp (Le.cons rfl (Le.cons rfl (Le.nil _))))))) hR ?_
  clear hS hR; rintro j aa ww hI hS hR; dsimp only [List.cons_append, List.nil_append] at hI hS hR
  refine wp_seq_k ?_; intro K712 hK712
  refine wp_region_lit ?_
  refine sA hS hR (Yld.lss hS rfl rfl) (by decide) ?_; clear hS; intro aa hS
  refine wpList_nil ?_
  refine hK712 _ _ ?_
  refine wp_seq_k ?_; intro K713 hK713
  refine hS.splitB (t := 47) rfl ?_ ?_ <;> clear hS
  ·
   intro hg hS
   refine condT hS rfl ?_
   refine wp_skip ?_
   refine hK713 _ _ ?_
   refine wp_seq_k ?_; intro K714 hK714
   refine wp_block ?_
   refine wp_seq_k ?_; intro K715 hK715
   refine wp_region_lit ?_
   refine sA hS hR (Yld.move hS rfl) (by decide) ?_; clear hS; intro aa hS
   refine sA hS hR (Yld.assign hS rfl) (by decide) ?_; clear hS; intro aa hS
   refine wpList_nil ?_
   refine hK715 _ _ ?_
   refine wp_seq_k ?_; intro K716 hK716
   refine wp_region_lit ?_
   refine sA hS hR (Yld.move hS rfl) (by decide) ?_; clear hS; intro aa hS
   refine sA hS hR (Yld.move hS rfl) (by decide) ?_; clear hS; intro aa hS
   refine sB (Bcall hS rfl Try.call14 (soCount_ok (a := (j : Int)) (by omega) (hR.pk (r := sourceA _ b _ _ _) pkQ)) (by decide) ?_); clear hS; intro aa ww vv hS hp
   clear hR
   obtain ⟨rfl, hR⟩ := hp
   have hcn := hOw.count hSF (b := j)
   have hml := many_le (ow := ow) (i := S) (j := j + 1)
   refine sA hS hR (Yld.assign hS rfl) (by decide) ?_; clear hS; intro aa hS
   refine wpList_nil ?_
   refine hK716 _ _ ?_
   refine wp_seq_k ?_; intro K717 hK717
   refine wp_seq_k ?_; intro K718 hK718
   refine wp_region_lit ?_
   refine sA hS hR (Yld.move hS rfl) (by decide) ?_; clear hS; intro aa hS
   refine sA hS hR (Yld.move hS rfl) (by decide) ?_; clear hS; intro aa hS
   refine sA hS hR ((by first | exact Yld.to (Yld.add hS rfl rfl) (congrArg (Value.int .u32) (IntWalk.u32_in _ (by omega))) | exact Yld.add hS rfl rfl)) (by decide) ?_; clear hS; intro aa hS
   refine sA hS hR (Yld.to (u := .pointer (some ⟨bb5, (j + 1) * 1, none⟩)) (Yld.indexArr hS rfl rfl Try.underlying111 info3 (by omega) (by omega)) (by have h1 : (Try.t3).size = 1 := rfl; rw [h1]; congr 3 <;> omega)) (by decide) ?_; clear hS; intro aa hS
   refine sA hS hR (Yld.load1 hS rfl Try.underlying3 rfl (Rd.flat0 (sz := 1) (k := j + 1) (xs := tab 9 (fun j => ((manyN ow S j : Nat) : Int))) (v := .int .i64 ((manyN ow S (j + 1) : Nat) : Int)) pkQ (by intro _; rfl) (by rw [tab_len]; omega) (by rw [tab_get]; rfl))) (by decide) ?_; clear hS; intro aa hS
   refine sA hS hR (Yld.neq hS rfl rfl) (by decide) ?_; clear hS; intro aa hS
   replace hS := hS.sayB (t := 57) false rfl (by rw [hcn]; simp)
   refine sA hS hR (Yld.move hS rfl) (by decide) ?_; clear hS; intro aa hS
   refine sAg hS hR rfl rfl (Yld.move hS rfl) (by decide) ?_; clear hS; intro aa hS
   refine sAg hS hR rfl rfl (Yld.move hS rfl) (by decide) ?_; clear hS; intro aa hS
   refine sAg hS hR rfl rfl (Yld.move hS rfl) (by decide) ?_; clear hS; intro aa hS
   refine sBg hS rfl rfl (Bcall hS rfl Try.call22 (soSlots_ok (a := (j : Int)) (by omega) (hR.pk (r := sourceA _ b _ _ _) pkQ)) (by decide) ?_); clear hS; intro aa ww vv hS hp
   clear hR
   obtain ⟨ra, ca, rfl, hR⟩ := hp
   refine sAg hS hR rfl rfl (Yld.len hS rfl Try.underlying40) (by decide) ?_; clear hS; intro aa hS
   refine sAg hS hR rfl rfl (Yld.neq hS rfl rfl) (by decide) ?_; clear hS; intro aa hS
   replace hS := hS.sayB (t := 64) false rfl (by rw [cst_len]; simp)
   refine sA hS hR (Yld.pickF hS rfl rfl) (by decide) ?_; clear hS; intro aa hS
   refine wpList_nil ?_
   refine hK718 _ _ ?_
   refine condF hS rfl ?_
   refine wp_skip ?_
   refine hK717 _ _ ?_
   refine wp_seq_k ?_; intro K719 hK719
   refine wp_region_lit ?_
   refine sA hS hR (Yld.move hS rfl) (by decide) ?_; clear hS; intro aa hS
   refine sA hS hR (Yld.gtr hS rfl rfl) (by decide) ?_; clear hS; intro aa hS
   refine wpList_nil ?_
   refine hK719 _ _ ?_
   refine hS.splitB (t := 67) rfl ?_ ?_ <;> clear hS
   ·
    intro hg hS
    have hsn := src_succ (T := T) (i := j)
    rw [if_pos (by omega)] at hsn
    have hsl := src_le (T := T) (i := j)
    refine condT hS rfl ?_
    refine wp_region_lit ?_
    refine sA hS hR (Yld.move hS rfl) (by decide) ?_; clear hS; intro aa hS
    refine sA hS hR ((by first | exact Yld.add64 hS rfl rfl (by omega) | exact Yld.add hS rfl rfl)) (by decide) ?_; clear hS; intro aa hS
    refine sA hS hR (Yld.assign hS rfl) (by decide) ?_; clear hS; intro aa hS
    refine wpList_nil ?_
    refine hK714 _ _ ?_
    refine wp_region_lit ?_
    refine sA hS hR ((by first | exact Yld.to (Yld.add hS rfl rfl) (congrArg (Value.int .u32) (IntWalk.u32_in _ (by omega))) | exact Yld.add hS rfl rfl)) (by decide) ?_; clear hS; intro aa hS
    refine sA hS hR (Yld.move hS rfl) (by decide) ?_; clear hS; intro aa hS
    refine wpList_nil ?_
    replace hS := hS.say (t := 10) (.int .i64 ((srcN T (j + 1) : Nat) : Int)) rfl (by rw [hsn]; rfl)
    refine ⟨j + 1, ?_, ?_, hS.le (Le.cons rfl (Le.cons rfl (Le.nilapp (Le.cons rfl (Le.cons rfl (Le.nil _)))))), hR.sub (Ex.nilapp exQ)⟩
    ·
     omega
    ·
     omega
   ·
    intro hg hS
    have hsn := src_succ (T := T) (i := j)
    rw [if_neg (by omega)] at hsn
    refine condF hS rfl ?_
    refine wp_skip ?_
    refine hK714 _ _ ?_
    refine wp_region_lit ?_
    refine sA hS hR ((by first | exact Yld.to (Yld.add hS rfl rfl) (congrArg (Value.int .u32) (IntWalk.u32_in _ (by omega))) | exact Yld.add hS rfl rfl)) (by decide) ?_; clear hS; intro aa hS
    refine sA hS hR (Yld.move hS rfl) (by decide) ?_; clear hS; intro aa hS
    refine wpList_nil ?_
    replace hS := hS.say (t := 10) (.int .i64 ((srcN T (j + 1) : Nat) : Int)) rfl (by rw [hsn]; rfl)
    refine ⟨j + 1, ?_, ?_, hS.le (Le.cons rfl (Le.cons rfl (Le.nilapp (Le.cons rfl (Le.cons rfl (Le.nil _)))))), hR.sub (Ex.nilapp exQ)⟩
    ·
     omega
    ·
     omega
  ·
   intro hg hS
   obtain rfl : j = 8 := by omega
   refine condF hS rfl ?_
   refine wp_exit ?_
   refine hK709 _ _ ?_
   refine wp_seq_k ?_; intro K720 hK720
   refine wp_region_lit ?_
   refine sA hS hR (Yld.move hS rfl) (by decide) ?_; clear hS; intro aa hS
   refine sB (Bcall hS rfl Try.call18 (soLen_ok (hR.pk (r := sourceA _ b _ _ _) pkQ)) (by decide) ?_); clear hS; intro aa ww vv hS hp
   clear hR
   obtain ⟨rfl, hR⟩ := hp
   refine sA hS hR (Yld.move hS rfl) (by decide) ?_; clear hS; intro aa hS
   refine sA hS hR (Yld.eql hS rfl rfl) (by decide) ?_; clear hS; intro aa hS
   replace hS := hS.sayB (t := 74) true rfl (by rw [hsr]; simp)
   refine sA hS hR (Yld.assign hS rfl) (by decide) ?_; clear hS; intro aa hS
   refine wpList_nil ?_
   refine hK720 _ _ ?_
   refine wp_ret ?_
   repeat (first | with_reducible refine thenR ?_ | with_reducible refine blockR ?_ | with_reducible refine scopeR ?_)
   refine ret1 (fn := Try.f24) (e := .ret) (.inl rfl) Try.results24 hS hR ⟨_, (.tmp rfl), ?_⟩
   exact ⟨rfl, (hR.sub exQ)⟩
set_option maxHeartbeats 4000000 in
set_option maxRecDepth 20000 in
theorem SourceLimit_ok {W : World} {q : Option Addr} {n c : Nat} {a b0 : Int} {xs : List (List Int)} (A1 : ArgS W [.u8, .u32, .i64] q n c xs) {l : List HP} {w : World} (ha : 0 ≤ a ∧ a ≤ 255) (hb0 : 0 ≤ b0 ∧ b0 ≤ 255) (hR : Sep (old W :: l) w) : CallR Try.prog 6 [.int .u8 a, .int .u8 b0, .slice q n c] w (fun v w' => v = .bool true ∧ Sep (old W :: l) w') := by
 refine enter Try.func6 rfl Try.ntmps6 (Nat.le_of_ble_eq_true rfl) ?_; intro aa hS
 have hcap := A1.cap
 refine wp_seq_k ?_; intro K721 hK721
 refine wp_region_lit ?_
 refine sA hS hR (Yld.assign hS rfl) (by decide) ?_; clear hS; intro aa hS
 refine wpList_nil ?_
 refine hK721 _ _ ?_
 refine wp_seq_k ?_; intro K722 hK722
 refine wp_seq_k ?_; intro K723 hK723
 refine wp_region_lit ?_
 refine sB (Bcall hS rfl Try.call10 (awake31_ok hR) (by decide) ?_); clear hS; intro aa ww vv hS hp
 clear hR
 obtain ⟨rfl, hR⟩ := hp
 refine sA hS hR (Yld.not hS rfl) (by decide) ?_; clear hS; intro aa hS
 refine wpList_nil ?_
 refine hK723 _ _ ?_
 refine condF hS rfl ?_
 refine wp_skip ?_
 refine hK722 _ _ ?_
 refine wp_seq_k ?_; intro K724 hK724
 refine wp_region_lit ?_
 refine sA hS hR (Yld.move hS rfl) (by decide) ?_; clear hS; intro aa hS
 refine sA hS hR (Yld.move hS rfl) (by decide) ?_; clear hS; intro aa hS
 refine sB (Bcall hS rfl Try.call11 (fresh31_ok ha hb0 hR) (by decide) ?_); clear hS; intro aa ww vv hS hp
 clear hR
 obtain ⟨b, S, lim, rfl, hSe, hle, hR⟩ := hp
 refine sA hS hR (Yld.move hS rfl) (by decide) ?_; clear hS; intro aa hS
 refine sA hS hR (Yld.extract hS rfl rfl) (by decide) ?_; clear hS; intro aa hS
 refine sA hS hR (Yld.extract hS rfl rfl) (by decide) ?_; clear hS; intro aa hS
 refine sA hS hR (Yld.extract hS rfl rfl) (by decide) ?_; clear hS; intro aa hS
 refine sA hS hR (Yld.assign hS rfl) (by decide) ?_; clear hS; intro aa hS
 refine sA hS hR (Yld.assign hS rfl) (by decide) ?_; clear hS; intro aa hS
 refine sA hS hR (Yld.assign hS rfl) (by decide) ?_; clear hS; intro aa hS
 refine wpList_nil ?_
 refine hK724 _ _ ?_
 refine wp_seq_k ?_; intro K725 hK725
 refine wp_seq_k ?_; intro K726 hK726
 refine wp_region_lit ?_
 refine sA hS hR (Yld.move hS rfl) (by decide) ?_; clear hS; intro aa hS
 refine sA hS hR (Yld.eqlNil hS rfl rfl Try.underlying24) (by decide) ?_; clear hS; intro aa hS
 replace hS := hS.sayB (t := 27) false rfl (by rfl)
 refine wpList_nil ?_
 refine hK726 _ _ ?_
 refine condF hS rfl ?_
 refine wp_skip ?_
 refine hK725 _ _ ?_
 refine wp_seq_k ?_; intro K727 hK727
 refine wp_region_lit ?_
 refine sA hS hR (Yld.move hS rfl) (by decide) ?_; clear hS; intro aa hS
 refine sB (Bmake (zc := [.int .i64 0]) hS hR rfl rfl Try.underlying40 info3 rfl (by rfl) (by rfl) (by decide) (by omega) (by show ((8 : Nat) : Int) * _ ≤ _; omega) (by omega) (by decide) ?_); clear hS hR; intro aa ww bb29 hS hR
 rw [show ((S : Int)).toNat = S from Int.toNat_natCast S] at hS hR
 replace hR := hR.pk (r := blk bb29 _ _) pkQ
 rw [zeros_flat (zc := [.int .i64 0]) (enc := e1) (0 : Int) S rfl] at hR
 replace hR := Sep.toRecs (m := S) (sz := 1) (enc := e1) (List.replicate S 0) hR rfl (by intro _; rfl) (by rw [List.length_replicate])
 rw [tab_rep] at hR
 obtain ⟨ro, hro⟩ : ∃ y : Option Addr, some ⟨bb29, 0, none⟩ = y := ⟨_, rfl⟩
 obtain ⟨co, hco⟩ : ∃ y : Nat, S = y := ⟨_, rfl⟩
 replace hS := hS.say (t := 29) (.slice ro S co) rfl (by rw [← hro, ← hco])
 replace hR : Sep (sls ro S co 3 1 ((tabN S (fun _ => 0)).flatMap e1) :: _) _ := (by rw [← hro, ← hco]; exact hR)
 refine sA hS hR (Yld.assign hS rfl) (by decide) ?_; clear hS; intro aa hS
 refine wpList_nil ?_
 refine hK727 _ _ ?_
 refine wp_seq_k ?_; intro K728 hK728
 refine wp_seq_k ?_; intro K729 hK729
 refine wp_region_lit ?_
 refine sA hS hR (Yld.move hS rfl) (by decide) ?_; clear hS; intro aa hS
 refine sA hS hR (Yld.move hS rfl) (by decide) ?_; clear hS; intro aa hS
 refine sA hS hR (Yld.len hS rfl Try.underlying22) (by decide) ?_; clear hS; intro aa hS
 refine sA hS hR (Yld.min hS rfl rfl) (by decide) ?_; clear hS; intro aa hS
 refine sA hS hR (Yld.sliceHi hS rfl rfl Try.underlying22 info30 (by omega) (by omega)) (by decide) ?_; clear hS; intro aa hS
 obtain ⟨mm, hmm0, hmm1⟩ : ∃ y : Nat, (Min.min (n : Int) 100).toNat = y ∧ y ≤ n ∧ y ≤ 100 := ⟨_, rfl, by omega, by omega⟩
 replace hS := hS.say (t := 34) (.slice q mm c) rfl (by rw [hmm0])
 refine sA hS hR (Yld.len hS rfl Try.underlying22) (by decide) ?_; clear hS; intro aa hS
 refine sA hS hR (Yld.move hS rfl) (by decide) ?_; clear hS; intro aa hS
 refine wpList_nil ?_
 refine hK729 _ _ ?_
 refine wp_block ?_
 rw [show T0 S = fT S lim xs 0 from fT_zero.symm] at hR
 replace hR := hR.pk (r := sls ro S co 3 1 ((tabN S (fun _ => 0)).flatMap e1)) pkQ
 replace hR := hR.pk (r := sourceA ss b S lim (fT S lim xs 0)) pkQ
 refine loopI (X := Nat × (Nat → Nat)) [(7, _), (8, _), (9, _), (10, _), (34, _), (35, _)] (fun x => [(36, .int .i64 (x.1 : Int))]) (fun x => [sourceA ss b S lim (fT S lim xs x.1), sls ro S co 3 1 ((tabN S x.2).flatMap e1)]) _ (fun x => x.1 ≤ mm ∧ OwI (fT S lim xs x.1) S x.2) (fun x => mm - x.1) (0, fun _ => 0) ⟨Nat.zero_le _, by rw [fT_zero]; exact OwI.new⟩ (hS.le (Le.cons rfl (Le.nilapp (Le.cons rfl (Le.cons rfl (Le.cons rfl (Le.cons rfl (Le.cons rfl (Le.cons rfl (Le.nil _)))))))))) hR ?_
 clear hS hR; rintro ⟨k, ow⟩ aa ww hI hS hR; dsimp only [List.cons_append, List.nil_append] at hI hS hR
 have hOw := hI.2
 refine wp_seq_k ?_; intro K731 hK731
 refine wp_region_lit ?_
 refine sA hS hR (Yld.lss hS rfl rfl) (by decide) ?_; clear hS; intro aa hS
 refine wpList_nil ?_
 refine hK731 _ _ ?_
 refine wp_seq_k ?_; intro K732 hK732
 refine hS.splitB (t := 37) rfl ?_ ?_ <;> clear hS
 ·
  intro hg hS
  refine condT hS rfl ?_
  refine wp_skip ?_
  refine hK732 _ _ ?_
  refine wp_seq_k ?_; intro K733 hK733
  refine wp_block ?_
  refine wp_seq_k ?_; intro K734 hK734
  refine wp_region_lit ?_
  obtain ⟨ba, ia, ns, hq, hx, hl, hw, hc⟩ := A1.at (k := k) (by omega)
  obtain ⟨s0, s1, s2, rfl⟩ := len3 hl
  subst hq
  have hw0 : 0 ≤ s0 ∧ s0 ≤ 255 := hw.1
  have hw1 : 0 ≤ s1 ∧ s1 ≤ 4294967295 := hw.2.1
  obtain ⟨sl, hsl, hslS⟩ := emod_nat (n := s2) (d := (S : Int)) (m := S) rfl (by omega)
  have hTn := fT_succ (S := S) (lim := lim) hx
  have hSF := fT_SF (S := S) (lim := lim) (xs := xs) (i := k) (by omega) (by omega)
  have hLow := fT_Low (S := S) (lim := lim) (xs := xs) (i := k)
  obtain ⟨T, hTe⟩ : ∃ y, fT S lim xs k = y := ⟨_, rfl⟩
  rw [hTe] at hR hTn hSF hLow hOw
  have hol8 := hOw.le hSF hLow hslS
  refine sA hS hR ((by first | exact Yld.indexL (sz := 3) _ hS rfl rfl Try.underlying22 info30 pkQ rfl rfl (by omega) | exact Yld.indexB (sz := 3) _ hS rfl rfl Try.underlying22 info30 rfl rfl (by omega) | exact Yld.indexSlice hS rfl rfl Try.underlying22 info30 (by omega) (by omega))) (by decide) ?_; clear hS; intro aa hS
  refine sA hS hR (Yld.loadAgg (vs := [.int .u8 s0, .int .u32 s1, .int .i64 s2]) hS rfl Try.underlying30 rfl info30 (Rds.at (Rds.old pkQ hc) (by rfl)) (by rfl)) (by decide) ?_; clear hS; intro aa hS
  refine sB (Balloc hS hR info30 (by rfl) (by rfl) (by decide) ?_); clear hS hR; intro aa ww bb12 hS hR
  refine sB (Bstore hS hR rfl rfl (by rfl) info30 (by rfl) pkQ (by rfl) (Nat.le_of_ble_eq_true rfl) ?_); clear hR; intro ww hR
  refine wpList_nil ?_
  refine hK734 _ _ ?_
  refine wp_seq_k ?_; intro K735 hK735
  refine wp_region_lit ?_
  by_cases hn : s0 % 2 = 0
  ·
   refine sA hS hR (Yld.move hS rfl) (by decide) ?_; clear hS; intro aa hS
   have hev := hn
   by_cases hn : ofO T.O (sl : Int) = none
   ·
    refine sA hS hR (Yld.fieldAddr hS rfl 1 Try.underlying30 rfl rfl info28 (by decide)) (by decide) ?_; clear hS; intro aa hS
    have hoo := hn
    by_cases hn : (slO T.O (s1 % 8)).length < lim
    ·
     refine sA hS hR (Yld.load1 hS rfl Try.underlying28 rfl (by first | exact Rd.blk pkQ (by rfl) | exact Rd.rec pkQ (by intro _; rfl) (by omega) rfl | exact Rd.rec0 pkQ (by intro _; rfl) (by omega) rfl | exact Rd.flatJ pkQ (by intro _; rfl) (by omega) rfl | exact Rd.flat0 pkQ (by intro _; rfl) (by omega) rfl)) (by decide) ?_; clear hS; intro aa hS
     refine sA hS hR ((by first | exact Yld.rem64 hS rfl rfl (by omega) | exact Yld.rem hS rfl rfl (by omega))) (by decide) ?_; clear hS; intro aa hS
     refine sB (Bcall hS rfl Try.call14 (soCount_ok (a := s1 % 8) (by omega) (hR.pk (r := sourceA _ b _ _ _) pkQ)) (by decide) ?_); clear hS; intro aa ww vv hS hp
     clear hR
     obtain ⟨rfl, hR⟩ := hp
     refine sA hS hR (Yld.assign hS rfl) (by decide) ?_; clear hS; intro aa hS
     refine wpList_nil ?_
     refine hK735 _ _ ?_
     refine wp_seq_k ?_; intro K736 hK736
     refine wp_region_lit ?_
     refine sA hS hR (Yld.move hS rfl) (by decide) ?_; clear hS; intro aa hS
     refine sA hS hR (Yld.move hS rfl) (by decide) ?_; clear hS; intro aa hS
     refine sA hS hR (Yld.loadAgg hS rfl Try.underlying30 rfl info30 (by first | exact Rds.cons (Rd.blk pkQ (by rfl)) (Rds.cons (Rd.blk pkQ (by rfl)) (Rds.cons (Rd.blk pkQ (by rfl)) (Rds.nil))) | exact Rds.rec pkQ (by intro _; rfl) (by omega) | exact Rds.flat1 pkQ (by intro _; rfl) (by omega)) (by rfl)) (by decide) ?_; clear hS; intro aa hS
     have how := owO_none hoo
     rw [← hOw sl hslS] at how
     have hfit := hn
     obtain ⟨h1, h2⟩ := opn_ok (S := S) (lim := lim) (T := T) (a := s1 % 8) hslS hoo hfit
     obtain ⟨ee1, ee2, ee3⟩ := act_open (S := S) (lim := lim) (T := T) (a := s1) (z := s2) hev
     rw [hsl, h1] at ee2
     rw [hsl, h2] at ee3
     refine sB (Bcall hS rfl Try.call12 (act31_ok (k := s0) (a := s1) (z := s2) (by omega) (by omega) hw0 hw1 (hR.pk (r := sourceA _ b _ _ _) pkQ)) (by decide) ?_); clear hS; intro aa ww vv hS hp
     clear hR
     obtain ⟨rfl, hR⟩ := hp
     rw [ee1, hsl, ee2] at hS; rw [ee3] at hR
     try dsimp only [Option.getD] at hS
     refine sA hS hR (Yld.move hS rfl) (by decide) ?_; clear hS; intro aa hS
     refine sA hS hR (Yld.extract hS rfl rfl) (by decide) ?_; clear hS; intro aa hS
     refine sA hS hR (Yld.extract hS rfl rfl) (by decide) ?_; clear hS; intro aa hS
     refine sA hS hR (Yld.extract hS rfl rfl) (by decide) ?_; clear hS; intro aa hS
     refine sA hS hR (Yld.assign hS rfl) (by decide) ?_; clear hS; intro aa hS
     refine sA hS hR (Yld.assign hS rfl) (by decide) ?_; clear hS; intro aa hS
     refine sA hS hR (Yld.assign hS rfl) (by decide) ?_; clear hS; intro aa hS
     refine wpList_nil ?_
     refine hK736 _ _ ?_
     refine wp_seq_k ?_; intro K737 hK737
     have tail737 : ∀ (T2 : So) (ow2 : Nat → Nat) (ad : Int) (had : 0 ≤ ad ∧ ad ≤ 4294967295) (hT2 : fT S lim xs (k + 1) = T2) (hOw2 : OwI T2 S ow2) (aa : Act) (ww : World), Has 135 aa [(7, .pointer (some ⟨b, 0, none⟩)), (8, .int .i64 (S : Int)), (9, .int .i64 (lim : Int)), (10, .slice ro S co), (14, .int .u32 ad), (34, .slice (some ⟨ba, ia, none⟩) mm c), (35, .int .i64 (mm : Int)), (36, .int .i64 (k : Int))] → Sep (sourceA ss b S lim T2 :: sls ro S co 3 1 ((tabN S ow2).flatMap e1) :: old W :: l) ww → K737 aa ww := by
      clear hS hR; intro T2 ow2 ad had hT2 hOw2 aa ww hS hR
      refine hK737 _ _ ?_
      have hSF2 : SF S lim T2 := by rw [← hT2]; exact fT_SF (by omega) (by omega)
      have hLow2 : Low T2 := by rw [← hT2]; exact fT_Low
      have hl2 := hSF2.lim ad
      refine wp_seq_k ?_; intro K738 hK738
      refine wp_region_lit ?_
      refine sA hS hR (Yld.move hS rfl) (by decide) ?_; clear hS; intro aa hS
      refine sA hS hR (Yld.move hS rfl) (by decide) ?_; clear hS; intro aa hS
      refine sB (Bcall hS rfl Try.call14 (soCount_ok (a := ad) had (hR.pk (r := sourceA _ b _ _ _) pkQ)) (by decide) ?_); clear hS; intro aa ww vv hS hp
      clear hR
      obtain ⟨rfl, hR⟩ := hp
      refine sA hS hR (Yld.move hS rfl) (by decide) ?_; clear hS; intro aa hS
      refine sA hS hR (Yld.gtr hS rfl rfl) (by decide) ?_; clear hS; intro aa hS
      replace hS := hS.sayB (t := 127) false rfl (by exact decide_eq_false (by omega))
      refine sA hS hR (Yld.move hS rfl) (by decide) ?_; clear hS; intro aa hS
      refine sAg hS hR rfl rfl (Yld.move hS rfl) (by decide) ?_; clear hS; intro aa hS
      refine sAg hS hR rfl rfl (Yld.move hS rfl) (by decide) ?_; clear hS; intro aa hS
      refine sBg hS rfl rfl (Bcall hS rfl Try.call24 (counts_ok hOw2 hSF2 hLow2 (by omega) ((hR.pk (r := sls ro _ _ _ _ _) pkQ).pk (r := sourceA _ b _ _ _) pkQ)) (by decide) ?_); clear hS; intro aa ww vv hS hp
      clear hR
      obtain ⟨rfl, hR⟩ := hp
      refine sAg hS hR rfl rfl (Yld.not hS rfl) (by decide) ?_; clear hS; intro aa hS
      replace hS := hS.sayB (t := 132) false rfl (by rfl)
      refine sA hS hR (Yld.pickF hS rfl rfl) (by decide) ?_; clear hS; intro aa hS
      refine wpList_nil ?_
      refine hK738 _ _ ?_
      refine condF hS rfl ?_
      refine wp_skip ?_
      refine hK733 _ _ ?_
      refine wp_region_lit ?_
      refine sA hS hR ((by first | exact Yld.add64 hS rfl rfl (by omega) | exact Yld.add hS rfl rfl)) (by decide) ?_; clear hS; intro aa hS
      refine sA hS hR (Yld.move hS rfl) (by decide) ?_; clear hS; intro aa hS
      refine wpList_nil ?_
      rw [← hT2] at hR hOw2
      refine ⟨(k + 1, ow2), ?_, ?_, hS.le (Le.cons rfl (Le.nilapp (Le.cons rfl (Le.cons rfl (Le.cons rfl (Le.cons rfl (Le.cons rfl (Le.cons rfl (Le.nil _))))))))), hR.sub (Ex.take pkQ (Ex.take pkQ (Ex.nilapp exQ)))⟩
      ·
       dsimp only; exact ⟨by omega, hOw2⟩
      ·
       dsimp only; omega
     refine wp_block ?_
     refine wp_seq_k ?_; intro K739 hK739
     refine wp_region_lit ?_
     refine sA hS hR (Yld.fieldAddr hS rfl 0 Try.underlying30 rfl rfl info5 (by decide)) (by decide) ?_; clear hS; intro aa hS
     refine sA hS hR (Yld.load1 hS rfl Try.underlying5 rfl (by first | exact Rd.blk pkQ (by rfl) | exact Rd.rec pkQ (by intro _; rfl) (by omega) rfl | exact Rd.rec0 pkQ (by intro _; rfl) (by omega) rfl | exact Rd.flatJ pkQ (by intro _; rfl) (by omega) rfl | exact Rd.flat0 pkQ (by intro _; rfl) (by omega) rfl)) (by decide) ?_; clear hS; intro aa hS
     refine sA hS hR ((by first | exact Yld.rem64 hS rfl rfl (by omega) | exact Yld.rem hS rfl rfl (by omega))) (by decide) ?_; clear hS; intro aa hS
     refine sA hS hR (Yld.eql hS rfl rfl) (by decide) ?_; clear hS; intro aa hS
     replace hS := hS.sayB (t := 57) false rfl (by exact decide_eq_false (by omega))
     refine sA hS hR (Yld.assign hS rfl) (by decide) ?_; clear hS; intro aa hS
     refine wpList_nil ?_
     refine hK739 _ _ ?_
     refine condF hS rfl ?_
     refine wp_seq_k ?_; intro K740 hK740
     refine wp_region_lit ?_
     refine sA hS hR (Yld.move hS rfl) (by decide) ?_; clear hS; intro aa hS
     refine sA hS hR (Yld.move hS rfl) (by decide) ?_; clear hS; intro aa hS
     refine sA hS hR ((by first | exact Yld.indexL (sz := 1) (sl) hS rfl rfl Try.underlying40 info3 pkQ rfl (by first | rfl | omega) (by omega) | exact Yld.indexB (sz := 1) (sl) hS rfl rfl Try.underlying40 info3 rfl (by first | rfl | omega) (by omega))) (by decide) ?_; clear hS; intro aa hS
     refine sA hS hR (Yld.load1 hS rfl Try.underlying3 rfl (Rd.rec0 (k := sl) (xs := tabN S ow) (v := .int .i64 ((ow sl : Nat) : Int)) pkQ (by intro _; rfl) (by rw [tabN_len]; omega) (by rw [tabN_get]; rfl))) (by decide) ?_; clear hS; intro aa hS
     refine sA hS hR (Yld.gtr hS rfl rfl) (by decide) ?_; clear hS; intro aa hS
     replace hS := hS.sayB (t := 96) false rfl (by exact decide_eq_false (by omega))
     refine sA hS hR (Yld.assign hS rfl) (by decide) ?_; clear hS; intro aa hS
     refine wpList_nil ?_
     refine hK740 _ _ ?_
     refine condF hS rfl ?_
     refine wp_seq_k ?_; intro K741 hK741
     refine wp_region_lit ?_
     refine sA hS hR (Yld.move hS rfl) (by decide) ?_; clear hS; intro aa hS
     refine sA hS hR (Yld.eql hS rfl rfl) (by decide) ?_; clear hS; intro aa hS
     replace hS := hS.sayB (t := 101) true rfl (by simp)
     refine sA hS hR (Yld.move hS rfl) (by decide) ?_; clear hS; intro aa hS
     refine sA hS hR (Yld.move hS rfl) (by decide) ?_; clear hS; intro aa hS
     refine sA hS hR (Yld.lss hS rfl rfl) (by decide) ?_; clear hS; intro aa hS
     replace hS := hS.sayB (t := 104) true rfl (by exact decide_eq_true (by omega))
     refine sA hS hR (Yld.neqB hS rfl rfl Try.underlying4) (by decide) ?_; clear hS; intro aa hS
     replace hS := hS.sayB (t := 105) false rfl (by rfl)
     refine sA hS hR (Yld.move hS rfl) (by decide) ?_; clear hS; intro aa hS
     refine sAg hS hR rfl rfl (Yld.move hS rfl) (by decide) ?_; clear hS; intro aa hS
     refine sAg hS hR rfl rfl (Yld.neq hS rfl rfl) (by decide) ?_; clear hS; intro aa hS
     replace hS := hS.sayB (t := 108) false rfl (by simp)
     refine sAg hS hR rfl rfl (Yld.move hS rfl) (by decide) ?_; clear hS; intro aa hS
     refine sSkip hS rfl rfl rfl (by decide) ?_; clear hS; intro aa hS
     refine sSkip hS rfl rfl rfl (by decide) ?_; clear hS; intro aa hS
     refine sAg hS hR rfl rfl (Yld.pickF hS rfl rfl) (by decide) ?_; clear hS; intro aa hS
     refine sA hS hR (Yld.pickF hS rfl rfl) (by decide) ?_; clear hS; intro aa hS
     refine sA hS hR (Yld.assign hS rfl) (by decide) ?_; clear hS; intro aa hS
     refine wpList_nil ?_
     refine hK741 _ _ ?_
     refine condF hS rfl ?_
     refine wp_seq_k ?_; intro K742 hK742
     refine wp_region_lit ?_
     refine sA hS hR (Yld.move hS rfl) (by decide) ?_; clear hS; intro aa hS
     refine sA hS hR (Yld.eql hS rfl rfl) (by decide) ?_; clear hS; intro aa hS
     replace hS := hS.sayB (t := 116) true rfl (by simp)
     refine sA hS hR (Yld.assign hS rfl) (by decide) ?_; clear hS; intro aa hS
     refine wpList_nil ?_
     refine hK742 _ _ ?_
     refine condT hS rfl ?_
     refine wp_region_lit ?_
     refine sA hS hR (Yld.move hS rfl) (by decide) ?_; clear hS; intro aa hS
     refine sA hS hR (Yld.move hS rfl) (by decide) ?_; clear hS; intro aa hS
     refine sA hS hR (Yld.move hS rfl) (by decide) ?_; clear hS; intro aa hS
     refine sA hS hR ((by first | exact Yld.to (Yld.convInt hS rfl rfl Try.underlying3) (congrArg (Value.int .i64) (IntWalk.i64_in _ (by omega))) | exact Yld.convInt hS rfl rfl Try.underlying3)) (by decide) ?_; clear hS; intro aa hS
     refine sA hS hR ((by first | exact Yld.add64 hS rfl rfl (by omega) | exact Yld.add hS rfl rfl)) (by decide) ?_; clear hS; intro aa hS
     replace hS := hS.say (t := 121) (.int .i64 (((s1 % 8).toNat + 1 : Nat) : Int)) rfl (by congr 1 <;> omega)
     refine sA hS hR ((by first | exact Yld.indexL (sz := 1) (sl) hS rfl rfl Try.underlying40 info3 pkQ rfl (by first | rfl | omega) (by omega) | exact Yld.indexB (sz := 1) (sl) hS rfl rfl Try.underlying40 info3 rfl (by first | rfl | omega) (by omega))) (by decide) ?_; clear hS; intro aa hS
     refine sB (BstoreT (k := sl) (v := (s1 % 8).toNat + 1) hS hR rfl rfl info3 rfl pkQ (by omega) ?_); clear hR; intro ww hR
     refine wpList_nil ?_
     exact tail737 (addO T (s1 % 8) sl) (upd ow sl ((s1 % 8).toNat + 1)) (s1 % 8) (by omega) (hTn.trans ee3) (hOw.opened hSF hslS hoo) _ _ (hS.le (Le.cons rfl (Le.cons rfl (Le.cons rfl (Le.cons rfl (Le.cons rfl (Le.cons rfl (Le.cons rfl (Le.cons rfl (Le.nil _)))))))))) (hR.sub exQ)
    ·
     refine sA hS hR (Yld.load1 hS rfl Try.underlying28 rfl (by first | exact Rd.blk pkQ (by rfl) | exact Rd.rec pkQ (by intro _; rfl) (by omega) rfl | exact Rd.rec0 pkQ (by intro _; rfl) (by omega) rfl | exact Rd.flatJ pkQ (by intro _; rfl) (by omega) rfl | exact Rd.flat0 pkQ (by intro _; rfl) (by omega) rfl)) (by decide) ?_; clear hS; intro aa hS
     refine sA hS hR ((by first | exact Yld.rem64 hS rfl rfl (by omega) | exact Yld.rem hS rfl rfl (by omega))) (by decide) ?_; clear hS; intro aa hS
     refine sB (Bcall hS rfl Try.call14 (soCount_ok (a := s1 % 8) (by omega) (hR.pk (r := sourceA _ b _ _ _) pkQ)) (by decide) ?_); clear hS; intro aa ww vv hS hp
     clear hR
     obtain ⟨rfl, hR⟩ := hp
     refine sA hS hR (Yld.assign hS rfl) (by decide) ?_; clear hS; intro aa hS
     refine wpList_nil ?_
     refine hK735 _ _ ?_
     refine wp_seq_k ?_; intro K743 hK743
     refine wp_region_lit ?_
     refine sA hS hR (Yld.move hS rfl) (by decide) ?_; clear hS; intro aa hS
     refine sA hS hR (Yld.move hS rfl) (by decide) ?_; clear hS; intro aa hS
     refine sA hS hR (Yld.loadAgg hS rfl Try.underlying30 rfl info30 (by first | exact Rds.cons (Rd.blk pkQ (by rfl)) (Rds.cons (Rd.blk pkQ (by rfl)) (Rds.cons (Rd.blk pkQ (by rfl)) (Rds.nil))) | exact Rds.rec pkQ (by intro _; rfl) (by omega) | exact Rds.flat1 pkQ (by intro _; rfl) (by omega)) (by rfl)) (by decide) ?_; clear hS; intro aa hS
     have how := owO_none hoo
     rw [← hOw sl hslS] at how
     have hfit := hn
     obtain ⟨h1, h2⟩ := opn_full (S := S) (lim := lim) (T := T) (a := s1 % 8) (x := (sl : Int)) (by omega) hoo (Nat.le_of_not_lt hfit)
     obtain ⟨ee1, ee2, ee3⟩ := act_open (S := S) (lim := lim) (T := T) (a := s1) (z := s2) hev
     rw [hsl, h1] at ee2
     rw [hsl, h2] at ee3
     refine sB (Bcall hS rfl Try.call12 (act31_ok (k := s0) (a := s1) (z := s2) (by omega) (by omega) hw0 hw1 (hR.pk (r := sourceA _ b _ _ _) pkQ)) (by decide) ?_); clear hS; intro aa ww vv hS hp
     clear hR
     obtain ⟨rfl, hR⟩ := hp
     rw [ee1, hsl, ee2] at hS; rw [ee3] at hR
     try dsimp only [Option.getD] at hS
     refine sA hS hR (Yld.move hS rfl) (by decide) ?_; clear hS; intro aa hS
     refine sA hS hR (Yld.extract hS rfl rfl) (by decide) ?_; clear hS; intro aa hS
     refine sA hS hR (Yld.extract hS rfl rfl) (by decide) ?_; clear hS; intro aa hS
     refine sA hS hR (Yld.extract hS rfl rfl) (by decide) ?_; clear hS; intro aa hS
     refine sA hS hR (Yld.assign hS rfl) (by decide) ?_; clear hS; intro aa hS
     refine sA hS hR (Yld.assign hS rfl) (by decide) ?_; clear hS; intro aa hS
     refine sA hS hR (Yld.assign hS rfl) (by decide) ?_; clear hS; intro aa hS
     refine wpList_nil ?_
     refine hK743 _ _ ?_
     refine wp_seq_k ?_; intro K744 hK744
     have tail744 : ∀ (T2 : So) (ow2 : Nat → Nat) (ad : Int) (had : 0 ≤ ad ∧ ad ≤ 4294967295) (hT2 : fT S lim xs (k + 1) = T2) (hOw2 : OwI T2 S ow2) (aa : Act) (ww : World), Has 135 aa [(7, .pointer (some ⟨b, 0, none⟩)), (8, .int .i64 (S : Int)), (9, .int .i64 (lim : Int)), (10, .slice ro S co), (14, .int .u32 ad), (34, .slice (some ⟨ba, ia, none⟩) mm c), (35, .int .i64 (mm : Int)), (36, .int .i64 (k : Int))] → Sep (sourceA ss b S lim T2 :: sls ro S co 3 1 ((tabN S ow2).flatMap e1) :: old W :: l) ww → K744 aa ww := by
      clear hS hR; intro T2 ow2 ad had hT2 hOw2 aa ww hS hR
      refine hK744 _ _ ?_
      have hSF2 : SF S lim T2 := by rw [← hT2]; exact fT_SF (by omega) (by omega)
      have hLow2 : Low T2 := by rw [← hT2]; exact fT_Low
      have hl2 := hSF2.lim ad
      refine wp_seq_k ?_; intro K745 hK745
      refine wp_region_lit ?_
      refine sA hS hR (Yld.move hS rfl) (by decide) ?_; clear hS; intro aa hS
      refine sA hS hR (Yld.move hS rfl) (by decide) ?_; clear hS; intro aa hS
      refine sB (Bcall hS rfl Try.call14 (soCount_ok (a := ad) had (hR.pk (r := sourceA _ b _ _ _) pkQ)) (by decide) ?_); clear hS; intro aa ww vv hS hp
      clear hR
      obtain ⟨rfl, hR⟩ := hp
      refine sA hS hR (Yld.move hS rfl) (by decide) ?_; clear hS; intro aa hS
      refine sA hS hR (Yld.gtr hS rfl rfl) (by decide) ?_; clear hS; intro aa hS
      replace hS := hS.sayB (t := 127) false rfl (by exact decide_eq_false (by omega))
      refine sA hS hR (Yld.move hS rfl) (by decide) ?_; clear hS; intro aa hS
      refine sAg hS hR rfl rfl (Yld.move hS rfl) (by decide) ?_; clear hS; intro aa hS
      refine sAg hS hR rfl rfl (Yld.move hS rfl) (by decide) ?_; clear hS; intro aa hS
      refine sBg hS rfl rfl (Bcall hS rfl Try.call24 (counts_ok hOw2 hSF2 hLow2 (by omega) ((hR.pk (r := sls ro _ _ _ _ _) pkQ).pk (r := sourceA _ b _ _ _) pkQ)) (by decide) ?_); clear hS; intro aa ww vv hS hp
      clear hR
      obtain ⟨rfl, hR⟩ := hp
      refine sAg hS hR rfl rfl (Yld.not hS rfl) (by decide) ?_; clear hS; intro aa hS
      replace hS := hS.sayB (t := 132) false rfl (by rfl)
      refine sA hS hR (Yld.pickF hS rfl rfl) (by decide) ?_; clear hS; intro aa hS
      refine wpList_nil ?_
      refine hK745 _ _ ?_
      refine condF hS rfl ?_
      refine wp_skip ?_
      refine hK733 _ _ ?_
      refine wp_region_lit ?_
      refine sA hS hR ((by first | exact Yld.add64 hS rfl rfl (by omega) | exact Yld.add hS rfl rfl)) (by decide) ?_; clear hS; intro aa hS
      refine sA hS hR (Yld.move hS rfl) (by decide) ?_; clear hS; intro aa hS
      refine wpList_nil ?_
      rw [← hT2] at hR hOw2
      refine ⟨(k + 1, ow2), ?_, ?_, hS.le (Le.cons rfl (Le.nilapp (Le.cons rfl (Le.cons rfl (Le.cons rfl (Le.cons rfl (Le.cons rfl (Le.cons rfl (Le.nil _))))))))), hR.sub (Ex.take pkQ (Ex.take pkQ (Ex.nilapp exQ)))⟩
      ·
       dsimp only; exact ⟨by omega, hOw2⟩
      ·
       dsimp only; omega
     refine wp_block ?_
     refine wp_seq_k ?_; intro K746 hK746
     refine wp_region_lit ?_
     refine sA hS hR (Yld.fieldAddr hS rfl 0 Try.underlying30 rfl rfl info5 (by decide)) (by decide) ?_; clear hS; intro aa hS
     refine sA hS hR (Yld.load1 hS rfl Try.underlying5 rfl (by first | exact Rd.blk pkQ (by rfl) | exact Rd.rec pkQ (by intro _; rfl) (by omega) rfl | exact Rd.rec0 pkQ (by intro _; rfl) (by omega) rfl | exact Rd.flatJ pkQ (by intro _; rfl) (by omega) rfl | exact Rd.flat0 pkQ (by intro _; rfl) (by omega) rfl)) (by decide) ?_; clear hS; intro aa hS
     refine sA hS hR ((by first | exact Yld.rem64 hS rfl rfl (by omega) | exact Yld.rem hS rfl rfl (by omega))) (by decide) ?_; clear hS; intro aa hS
     refine sA hS hR (Yld.eql hS rfl rfl) (by decide) ?_; clear hS; intro aa hS
     replace hS := hS.sayB (t := 57) false rfl (by exact decide_eq_false (by omega))
     refine sA hS hR (Yld.assign hS rfl) (by decide) ?_; clear hS; intro aa hS
     refine wpList_nil ?_
     refine hK746 _ _ ?_
     refine condF hS rfl ?_
     refine wp_seq_k ?_; intro K747 hK747
     refine wp_region_lit ?_
     refine sA hS hR (Yld.move hS rfl) (by decide) ?_; clear hS; intro aa hS
     refine sA hS hR (Yld.move hS rfl) (by decide) ?_; clear hS; intro aa hS
     refine sA hS hR ((by first | exact Yld.indexL (sz := 1) (sl) hS rfl rfl Try.underlying40 info3 pkQ rfl (by first | rfl | omega) (by omega) | exact Yld.indexB (sz := 1) (sl) hS rfl rfl Try.underlying40 info3 rfl (by first | rfl | omega) (by omega))) (by decide) ?_; clear hS; intro aa hS
     refine sA hS hR (Yld.load1 hS rfl Try.underlying3 rfl (Rd.rec0 (k := sl) (xs := tabN S ow) (v := .int .i64 ((ow sl : Nat) : Int)) pkQ (by intro _; rfl) (by rw [tabN_len]; omega) (by rw [tabN_get]; rfl))) (by decide) ?_; clear hS; intro aa hS
     refine sA hS hR (Yld.gtr hS rfl rfl) (by decide) ?_; clear hS; intro aa hS
     replace hS := hS.sayB (t := 96) false rfl (by exact decide_eq_false (by omega))
     refine sA hS hR (Yld.assign hS rfl) (by decide) ?_; clear hS; intro aa hS
     refine wpList_nil ?_
     refine hK747 _ _ ?_
     refine condF hS rfl ?_
     refine wp_seq_k ?_; intro K748 hK748
     refine wp_region_lit ?_
     refine sA hS hR (Yld.move hS rfl) (by decide) ?_; clear hS; intro aa hS
     refine sA hS hR (Yld.eql hS rfl rfl) (by decide) ?_; clear hS; intro aa hS
     replace hS := hS.sayB (t := 101) false rfl (by simp)
     refine sA hS hR (Yld.move hS rfl) (by decide) ?_; clear hS; intro aa hS
     refine sA hS hR (Yld.move hS rfl) (by decide) ?_; clear hS; intro aa hS
     refine sA hS hR (Yld.lss hS rfl rfl) (by decide) ?_; clear hS; intro aa hS
     replace hS := hS.sayB (t := 104) false rfl (by exact decide_eq_false (by omega))
     refine sA hS hR (Yld.neqB hS rfl rfl Try.underlying4) (by decide) ?_; clear hS; intro aa hS
     replace hS := hS.sayB (t := 105) false rfl (by rfl)
     refine sA hS hR (Yld.move hS rfl) (by decide) ?_; clear hS; intro aa hS
     refine sAg hS hR rfl rfl (Yld.move hS rfl) (by decide) ?_; clear hS; intro aa hS
     refine sAg hS hR rfl rfl (Yld.neq hS rfl rfl) (by decide) ?_; clear hS; intro aa hS
     replace hS := hS.sayB (t := 108) true rfl (by simp)
     refine sAg hS hR rfl rfl (Yld.move hS rfl) (by decide) ?_; clear hS; intro aa hS
     refine sAg hS hR rfl rfl (Yld.move hS rfl) (by decide) ?_; clear hS; intro aa hS
     refine sAg hS hR rfl rfl (Yld.neq hS rfl rfl) (by decide) ?_; clear hS; intro aa hS
     replace hS := hS.sayB (t := 111) false rfl (by simp)
     refine sAg hS hR rfl rfl (Yld.pickT hS rfl rfl) (by decide) ?_; clear hS; intro aa hS
     refine sA hS hR (Yld.pickF hS rfl rfl) (by decide) ?_; clear hS; intro aa hS
     refine sA hS hR (Yld.assign hS rfl) (by decide) ?_; clear hS; intro aa hS
     refine wpList_nil ?_
     refine hK748 _ _ ?_
     refine condF hS rfl ?_
     refine wp_seq_k ?_; intro K749 hK749
     refine wp_region_lit ?_
     refine sA hS hR (Yld.move hS rfl) (by decide) ?_; clear hS; intro aa hS
     refine sA hS hR (Yld.eql hS rfl rfl) (by decide) ?_; clear hS; intro aa hS
     replace hS := hS.sayB (t := 116) false rfl (by simp)
     refine sA hS hR (Yld.assign hS rfl) (by decide) ?_; clear hS; intro aa hS
     refine wpList_nil ?_
     refine hK749 _ _ ?_
     refine condF hS rfl ?_
     refine wp_skip ?_
     exact tail744 T ow (s1 % 8) (by omega) (hTn.trans ee3) hOw _ _ (hS.le (Le.cons rfl (Le.cons rfl (Le.cons rfl (Le.cons rfl (Le.cons rfl (Le.cons rfl (Le.cons rfl (Le.cons rfl (Le.nil _)))))))))) (hR.sub exQ)
   ·
    refine sA hS hR (Yld.fieldAddr hS rfl 1 Try.underlying30 rfl rfl info28 (by decide)) (by decide) ?_; clear hS; intro aa hS
    refine sA hS hR (Yld.load1 hS rfl Try.underlying28 rfl (by first | exact Rd.blk pkQ (by rfl) | exact Rd.rec pkQ (by intro _; rfl) (by omega) rfl | exact Rd.rec0 pkQ (by intro _; rfl) (by omega) rfl | exact Rd.flatJ pkQ (by intro _; rfl) (by omega) rfl | exact Rd.flat0 pkQ (by intro _; rfl) (by omega) rfl)) (by decide) ?_; clear hS; intro aa hS
    refine sA hS hR ((by first | exact Yld.rem64 hS rfl rfl (by omega) | exact Yld.rem hS rfl rfl (by omega))) (by decide) ?_; clear hS; intro aa hS
    refine sB (Bcall hS rfl Try.call14 (soCount_ok (a := s1 % 8) (by omega) (hR.pk (r := sourceA _ b _ _ _) pkQ)) (by decide) ?_); clear hS; intro aa ww vv hS hp
    clear hR
    obtain ⟨rfl, hR⟩ := hp
    refine sA hS hR (Yld.assign hS rfl) (by decide) ?_; clear hS; intro aa hS
    refine wpList_nil ?_
    refine hK735 _ _ ?_
    refine wp_seq_k ?_; intro K750 hK750
    refine wp_region_lit ?_
    refine sA hS hR (Yld.move hS rfl) (by decide) ?_; clear hS; intro aa hS
    refine sA hS hR (Yld.move hS rfl) (by decide) ?_; clear hS; intro aa hS
    refine sA hS hR (Yld.loadAgg hS rfl Try.underlying30 rfl info30 (by first | exact Rds.cons (Rd.blk pkQ (by rfl)) (Rds.cons (Rd.blk pkQ (by rfl)) (Rds.cons (Rd.blk pkQ (by rfl)) (Rds.nil))) | exact Rds.rec pkQ (by intro _; rfl) (by omega) | exact Rds.flat1 pkQ (by intro _; rfl) (by omega)) (by rfl)) (by decide) ?_; clear hS; intro aa hS
    obtain ⟨q0, hoo⟩ : ∃ q0, ofO T.O (sl : Int) = some q0 := by
     cases hv : ofO T.O (sl : Int) with
     | none => exact absurd hv hn
     | some o => exact ⟨o, rfl⟩
    have hq0 := hLow.of hSF hoo
    have how := owO_some hoo
    rw [← hOw sl hslS] at how
    obtain ⟨h1, h2⟩ := opn_there (S := S) (lim := lim) (T := T) (a := s1 % 8) (x := (sl : Int)) (by omega) hoo
    obtain ⟨ee1, ee2, ee3⟩ := act_open (S := S) (lim := lim) (T := T) (a := s1) (z := s2) hev
    rw [hsl, h1] at ee2
    rw [hsl, h2] at ee3
    refine sB (Bcall hS rfl Try.call12 (act31_ok (k := s0) (a := s1) (z := s2) (by omega) (by omega) hw0 hw1 (hR.pk (r := sourceA _ b _ _ _) pkQ)) (by decide) ?_); clear hS; intro aa ww vv hS hp
    clear hR
    obtain ⟨rfl, hR⟩ := hp
    rw [ee1, hsl, ee2] at hS; rw [ee3] at hR
    try dsimp only [Option.getD] at hS
    refine sA hS hR (Yld.move hS rfl) (by decide) ?_; clear hS; intro aa hS
    refine sA hS hR (Yld.extract hS rfl rfl) (by decide) ?_; clear hS; intro aa hS
    refine sA hS hR (Yld.extract hS rfl rfl) (by decide) ?_; clear hS; intro aa hS
    refine sA hS hR (Yld.extract hS rfl rfl) (by decide) ?_; clear hS; intro aa hS
    refine sA hS hR (Yld.assign hS rfl) (by decide) ?_; clear hS; intro aa hS
    refine sA hS hR (Yld.assign hS rfl) (by decide) ?_; clear hS; intro aa hS
    refine sA hS hR (Yld.assign hS rfl) (by decide) ?_; clear hS; intro aa hS
    refine wpList_nil ?_
    refine hK750 _ _ ?_
    refine wp_seq_k ?_; intro K751 hK751
    have tail751 : ∀ (T2 : So) (ow2 : Nat → Nat) (ad : Int) (had : 0 ≤ ad ∧ ad ≤ 4294967295) (hT2 : fT S lim xs (k + 1) = T2) (hOw2 : OwI T2 S ow2) (aa : Act) (ww : World), Has 135 aa [(7, .pointer (some ⟨b, 0, none⟩)), (8, .int .i64 (S : Int)), (9, .int .i64 (lim : Int)), (10, .slice ro S co), (14, .int .u32 ad), (34, .slice (some ⟨ba, ia, none⟩) mm c), (35, .int .i64 (mm : Int)), (36, .int .i64 (k : Int))] → Sep (sourceA ss b S lim T2 :: sls ro S co 3 1 ((tabN S ow2).flatMap e1) :: old W :: l) ww → K751 aa ww := by
     clear hS hR; intro T2 ow2 ad had hT2 hOw2 aa ww hS hR
     refine hK751 _ _ ?_
     have hSF2 : SF S lim T2 := by rw [← hT2]; exact fT_SF (by omega) (by omega)
     have hLow2 : Low T2 := by rw [← hT2]; exact fT_Low
     have hl2 := hSF2.lim ad
     refine wp_seq_k ?_; intro K752 hK752
     refine wp_region_lit ?_
     refine sA hS hR (Yld.move hS rfl) (by decide) ?_; clear hS; intro aa hS
     refine sA hS hR (Yld.move hS rfl) (by decide) ?_; clear hS; intro aa hS
     refine sB (Bcall hS rfl Try.call14 (soCount_ok (a := ad) had (hR.pk (r := sourceA _ b _ _ _) pkQ)) (by decide) ?_); clear hS; intro aa ww vv hS hp
     clear hR
     obtain ⟨rfl, hR⟩ := hp
     refine sA hS hR (Yld.move hS rfl) (by decide) ?_; clear hS; intro aa hS
     refine sA hS hR (Yld.gtr hS rfl rfl) (by decide) ?_; clear hS; intro aa hS
     replace hS := hS.sayB (t := 127) false rfl (by exact decide_eq_false (by omega))
     refine sA hS hR (Yld.move hS rfl) (by decide) ?_; clear hS; intro aa hS
     refine sAg hS hR rfl rfl (Yld.move hS rfl) (by decide) ?_; clear hS; intro aa hS
     refine sAg hS hR rfl rfl (Yld.move hS rfl) (by decide) ?_; clear hS; intro aa hS
     refine sBg hS rfl rfl (Bcall hS rfl Try.call24 (counts_ok hOw2 hSF2 hLow2 (by omega) ((hR.pk (r := sls ro _ _ _ _ _) pkQ).pk (r := sourceA _ b _ _ _) pkQ)) (by decide) ?_); clear hS; intro aa ww vv hS hp
     clear hR
     obtain ⟨rfl, hR⟩ := hp
     refine sAg hS hR rfl rfl (Yld.not hS rfl) (by decide) ?_; clear hS; intro aa hS
     replace hS := hS.sayB (t := 132) false rfl (by rfl)
     refine sA hS hR (Yld.pickF hS rfl rfl) (by decide) ?_; clear hS; intro aa hS
     refine wpList_nil ?_
     refine hK752 _ _ ?_
     refine condF hS rfl ?_
     refine wp_skip ?_
     refine hK733 _ _ ?_
     refine wp_region_lit ?_
     refine sA hS hR ((by first | exact Yld.add64 hS rfl rfl (by omega) | exact Yld.add hS rfl rfl)) (by decide) ?_; clear hS; intro aa hS
     refine sA hS hR (Yld.move hS rfl) (by decide) ?_; clear hS; intro aa hS
     refine wpList_nil ?_
     rw [← hT2] at hR hOw2
     refine ⟨(k + 1, ow2), ?_, ?_, hS.le (Le.cons rfl (Le.nilapp (Le.cons rfl (Le.cons rfl (Le.cons rfl (Le.cons rfl (Le.cons rfl (Le.cons rfl (Le.nil _))))))))), hR.sub (Ex.take pkQ (Ex.take pkQ (Ex.nilapp exQ)))⟩
     ·
      dsimp only; exact ⟨by omega, hOw2⟩
     ·
      dsimp only; omega
    refine wp_block ?_
    refine wp_seq_k ?_; intro K753 hK753
    refine wp_region_lit ?_
    refine sA hS hR (Yld.fieldAddr hS rfl 0 Try.underlying30 rfl rfl info5 (by decide)) (by decide) ?_; clear hS; intro aa hS
    refine sA hS hR (Yld.load1 hS rfl Try.underlying5 rfl (by first | exact Rd.blk pkQ (by rfl) | exact Rd.rec pkQ (by intro _; rfl) (by omega) rfl | exact Rd.rec0 pkQ (by intro _; rfl) (by omega) rfl | exact Rd.flatJ pkQ (by intro _; rfl) (by omega) rfl | exact Rd.flat0 pkQ (by intro _; rfl) (by omega) rfl)) (by decide) ?_; clear hS; intro aa hS
    refine sA hS hR ((by first | exact Yld.rem64 hS rfl rfl (by omega) | exact Yld.rem hS rfl rfl (by omega))) (by decide) ?_; clear hS; intro aa hS
    refine sA hS hR (Yld.eql hS rfl rfl) (by decide) ?_; clear hS; intro aa hS
    replace hS := hS.sayB (t := 57) false rfl (by exact decide_eq_false (by omega))
    refine sA hS hR (Yld.assign hS rfl) (by decide) ?_; clear hS; intro aa hS
    refine wpList_nil ?_
    refine hK753 _ _ ?_
    refine condF hS rfl ?_
    refine wp_seq_k ?_; intro K754 hK754
    refine wp_region_lit ?_
    refine sA hS hR (Yld.move hS rfl) (by decide) ?_; clear hS; intro aa hS
    refine sA hS hR (Yld.move hS rfl) (by decide) ?_; clear hS; intro aa hS
    refine sA hS hR ((by first | exact Yld.indexL (sz := 1) (sl) hS rfl rfl Try.underlying40 info3 pkQ rfl (by first | rfl | omega) (by omega) | exact Yld.indexB (sz := 1) (sl) hS rfl rfl Try.underlying40 info3 rfl (by first | rfl | omega) (by omega))) (by decide) ?_; clear hS; intro aa hS
    refine sA hS hR (Yld.load1 hS rfl Try.underlying3 rfl (Rd.rec0 (k := sl) (xs := tabN S ow) (v := .int .i64 ((ow sl : Nat) : Int)) pkQ (by intro _; rfl) (by rw [tabN_len]; omega) (by rw [tabN_get]; rfl))) (by decide) ?_; clear hS; intro aa hS
    refine sA hS hR (Yld.gtr hS rfl rfl) (by decide) ?_; clear hS; intro aa hS
    replace hS := hS.sayB (t := 96) true rfl (by exact decide_eq_true (by omega))
    refine sA hS hR (Yld.assign hS rfl) (by decide) ?_; clear hS; intro aa hS
    refine wpList_nil ?_
    refine hK754 _ _ ?_
    refine condT hS rfl ?_
    refine wp_seq_k ?_; intro K755 hK755
    refine wp_region_lit ?_
    refine sA hS hR (Yld.move hS rfl) (by decide) ?_; clear hS; intro aa hS
    refine sA hS hR (Yld.neq hS rfl rfl) (by decide) ?_; clear hS; intro aa hS
    replace hS := hS.sayB (t := 98) false rfl (by simp)
    refine wpList_nil ?_
    refine hK755 _ _ ?_
    refine condF hS rfl ?_
    refine wp_skip ?_
    exact tail751 T ow (s1 % 8) (by omega) (hTn.trans ee3) hOw _ _ (hS.le (Le.cons rfl (Le.cons rfl (Le.cons rfl (Le.cons rfl (Le.cons rfl (Le.cons rfl (Le.cons rfl (Le.cons rfl (Le.nil _)))))))))) (hR.sub exQ)
  ·
   refine sA hS hR (Yld.move hS rfl) (by decide) ?_; clear hS; intro aa hS
   have hev := hn
   by_cases hn : ofO T.O (sl : Int) = none
   ·
    refine sA hS hR (Yld.fieldAddr hS rfl 1 Try.underlying30 rfl rfl info28 (by decide)) (by decide) ?_; clear hS; intro aa hS
    have hoo := hn
    refine sA hS hR (Yld.load1 hS rfl Try.underlying28 rfl (by first | exact Rd.blk pkQ (by rfl) | exact Rd.rec pkQ (by intro _; rfl) (by omega) rfl | exact Rd.rec0 pkQ (by intro _; rfl) (by omega) rfl | exact Rd.flatJ pkQ (by intro _; rfl) (by omega) rfl | exact Rd.flat0 pkQ (by intro _; rfl) (by omega) rfl)) (by decide) ?_; clear hS; intro aa hS
    refine sA hS hR ((by first | exact Yld.rem64 hS rfl rfl (by omega) | exact Yld.rem hS rfl rfl (by omega))) (by decide) ?_; clear hS; intro aa hS
    refine sB (Bcall hS rfl Try.call14 (soCount_ok (a := s1 % 8) (by omega) (hR.pk (r := sourceA _ b _ _ _) pkQ)) (by decide) ?_); clear hS; intro aa ww vv hS hp
    clear hR
    obtain ⟨rfl, hR⟩ := hp
    refine sA hS hR (Yld.assign hS rfl) (by decide) ?_; clear hS; intro aa hS
    refine wpList_nil ?_
    refine hK735 _ _ ?_
    refine wp_seq_k ?_; intro K756 hK756
    refine wp_region_lit ?_
    refine sA hS hR (Yld.move hS rfl) (by decide) ?_; clear hS; intro aa hS
    refine sA hS hR (Yld.move hS rfl) (by decide) ?_; clear hS; intro aa hS
    refine sA hS hR (Yld.loadAgg hS rfl Try.underlying30 rfl info30 (by first | exact Rds.cons (Rd.blk pkQ (by rfl)) (Rds.cons (Rd.blk pkQ (by rfl)) (Rds.cons (Rd.blk pkQ (by rfl)) (Rds.nil))) | exact Rds.rec pkQ (by intro _; rfl) (by omega) | exact Rds.flat1 pkQ (by intro _; rfl) (by omega)) (by rfl)) (by decide) ?_; clear hS; intro aa hS
    have how := owO_none hoo
    rw [← hOw sl hslS] at how
    obtain ⟨h1, h2⟩ := cls_none (S := S) (T := T) (x := (sl : Int)) (by omega) hoo
    obtain ⟨ee1, ee2, ee3⟩ := act_close (S := S) (lim := lim) (T := T) (a := s1) (z := s2) hev
    rw [hsl, hoo] at ee1
    rw [hsl, h1] at ee2
    rw [hsl, h2] at ee3
    refine sB (Bcall hS rfl Try.call12 (act31_ok (k := s0) (a := s1) (z := s2) (by omega) (by omega) hw0 hw1 (hR.pk (r := sourceA _ b _ _ _) pkQ)) (by decide) ?_); clear hS; intro aa ww vv hS hp
    clear hR
    obtain ⟨rfl, hR⟩ := hp
    rw [ee1, hsl, ee2] at hS; rw [ee3] at hR
    try dsimp only [Option.getD] at hS
    refine sA hS hR (Yld.move hS rfl) (by decide) ?_; clear hS; intro aa hS
    refine sA hS hR (Yld.extract hS rfl rfl) (by decide) ?_; clear hS; intro aa hS
    refine sA hS hR (Yld.extract hS rfl rfl) (by decide) ?_; clear hS; intro aa hS
    refine sA hS hR (Yld.extract hS rfl rfl) (by decide) ?_; clear hS; intro aa hS
    refine sA hS hR (Yld.assign hS rfl) (by decide) ?_; clear hS; intro aa hS
    refine sA hS hR (Yld.assign hS rfl) (by decide) ?_; clear hS; intro aa hS
    refine sA hS hR (Yld.assign hS rfl) (by decide) ?_; clear hS; intro aa hS
    refine wpList_nil ?_
    refine hK756 _ _ ?_
    refine wp_seq_k ?_; intro K757 hK757
    have tail757 : ∀ (T2 : So) (ow2 : Nat → Nat) (ad : Int) (had : 0 ≤ ad ∧ ad ≤ 4294967295) (hT2 : fT S lim xs (k + 1) = T2) (hOw2 : OwI T2 S ow2) (aa : Act) (ww : World), Has 135 aa [(7, .pointer (some ⟨b, 0, none⟩)), (8, .int .i64 (S : Int)), (9, .int .i64 (lim : Int)), (10, .slice ro S co), (14, .int .u32 ad), (34, .slice (some ⟨ba, ia, none⟩) mm c), (35, .int .i64 (mm : Int)), (36, .int .i64 (k : Int))] → Sep (sourceA ss b S lim T2 :: sls ro S co 3 1 ((tabN S ow2).flatMap e1) :: old W :: l) ww → K757 aa ww := by
     clear hS hR; intro T2 ow2 ad had hT2 hOw2 aa ww hS hR
     refine hK757 _ _ ?_
     have hSF2 : SF S lim T2 := by rw [← hT2]; exact fT_SF (by omega) (by omega)
     have hLow2 : Low T2 := by rw [← hT2]; exact fT_Low
     have hl2 := hSF2.lim ad
     refine wp_seq_k ?_; intro K758 hK758
     refine wp_region_lit ?_
     refine sA hS hR (Yld.move hS rfl) (by decide) ?_; clear hS; intro aa hS
     refine sA hS hR (Yld.move hS rfl) (by decide) ?_; clear hS; intro aa hS
     refine sB (Bcall hS rfl Try.call14 (soCount_ok (a := ad) had (hR.pk (r := sourceA _ b _ _ _) pkQ)) (by decide) ?_); clear hS; intro aa ww vv hS hp
     clear hR
     obtain ⟨rfl, hR⟩ := hp
     refine sA hS hR (Yld.move hS rfl) (by decide) ?_; clear hS; intro aa hS
     refine sA hS hR (Yld.gtr hS rfl rfl) (by decide) ?_; clear hS; intro aa hS
     replace hS := hS.sayB (t := 127) false rfl (by exact decide_eq_false (by omega))
     refine sA hS hR (Yld.move hS rfl) (by decide) ?_; clear hS; intro aa hS
     refine sAg hS hR rfl rfl (Yld.move hS rfl) (by decide) ?_; clear hS; intro aa hS
     refine sAg hS hR rfl rfl (Yld.move hS rfl) (by decide) ?_; clear hS; intro aa hS
     refine sBg hS rfl rfl (Bcall hS rfl Try.call24 (counts_ok hOw2 hSF2 hLow2 (by omega) ((hR.pk (r := sls ro _ _ _ _ _) pkQ).pk (r := sourceA _ b _ _ _) pkQ)) (by decide) ?_); clear hS; intro aa ww vv hS hp
     clear hR
     obtain ⟨rfl, hR⟩ := hp
     refine sAg hS hR rfl rfl (Yld.not hS rfl) (by decide) ?_; clear hS; intro aa hS
     replace hS := hS.sayB (t := 132) false rfl (by rfl)
     refine sA hS hR (Yld.pickF hS rfl rfl) (by decide) ?_; clear hS; intro aa hS
     refine wpList_nil ?_
     refine hK758 _ _ ?_
     refine condF hS rfl ?_
     refine wp_skip ?_
     refine hK733 _ _ ?_
     refine wp_region_lit ?_
     refine sA hS hR ((by first | exact Yld.add64 hS rfl rfl (by omega) | exact Yld.add hS rfl rfl)) (by decide) ?_; clear hS; intro aa hS
     refine sA hS hR (Yld.move hS rfl) (by decide) ?_; clear hS; intro aa hS
     refine wpList_nil ?_
     rw [← hT2] at hR hOw2
     refine ⟨(k + 1, ow2), ?_, ?_, hS.le (Le.cons rfl (Le.nilapp (Le.cons rfl (Le.cons rfl (Le.cons rfl (Le.cons rfl (Le.cons rfl (Le.cons rfl (Le.nil _))))))))), hR.sub (Ex.take pkQ (Ex.take pkQ (Ex.nilapp exQ)))⟩
     ·
      dsimp only; exact ⟨by omega, hOw2⟩
     ·
      dsimp only; omega
    refine wp_block ?_
    refine wp_seq_k ?_; intro K759 hK759
    refine wp_region_lit ?_
    refine sA hS hR (Yld.fieldAddr hS rfl 0 Try.underlying30 rfl rfl info5 (by decide)) (by decide) ?_; clear hS; intro aa hS
    refine sA hS hR (Yld.load1 hS rfl Try.underlying5 rfl (by first | exact Rd.blk pkQ (by rfl) | exact Rd.rec pkQ (by intro _; rfl) (by omega) rfl | exact Rd.rec0 pkQ (by intro _; rfl) (by omega) rfl | exact Rd.flatJ pkQ (by intro _; rfl) (by omega) rfl | exact Rd.flat0 pkQ (by intro _; rfl) (by omega) rfl)) (by decide) ?_; clear hS; intro aa hS
    refine sA hS hR ((by first | exact Yld.rem64 hS rfl rfl (by omega) | exact Yld.rem hS rfl rfl (by omega))) (by decide) ?_; clear hS; intro aa hS
    refine sA hS hR (Yld.eql hS rfl rfl) (by decide) ?_; clear hS; intro aa hS
    replace hS := hS.sayB (t := 57) true rfl (by exact decide_eq_true (by omega))
    refine sA hS hR (Yld.assign hS rfl) (by decide) ?_; clear hS; intro aa hS
    refine wpList_nil ?_
    refine hK759 _ _ ?_
    refine condT hS rfl ?_
    refine wp_seq_k ?_; intro K760 hK760
    refine wp_seq_k ?_; intro K761 hK761
    refine wp_region_lit ?_
    refine sA hS hR (Yld.move hS rfl) (by decide) ?_; clear hS; intro aa hS
    refine sA hS hR (Yld.eql hS rfl rfl) (by decide) ?_; clear hS; intro aa hS
    replace hS := hS.sayB (t := 59) false rfl (by simp)
    refine sA hS hR (Yld.move hS rfl) (by decide) ?_; clear hS; intro aa hS
    refine sA hS hR (Yld.move hS rfl) (by decide) ?_; clear hS; intro aa hS
    refine sA hS hR ((by first | exact Yld.indexL (sz := 1) (sl) hS rfl rfl Try.underlying40 info3 pkQ rfl (by first | rfl | omega) (by omega) | exact Yld.indexB (sz := 1) (sl) hS rfl rfl Try.underlying40 info3 rfl (by first | rfl | omega) (by omega))) (by decide) ?_; clear hS; intro aa hS
    refine sA hS hR (Yld.load1 hS rfl Try.underlying3 rfl (Rd.rec0 (k := sl) (xs := tabN S ow) (v := .int .i64 ((ow sl : Nat) : Int)) pkQ (by intro _; rfl) (by rw [tabN_len]; omega) (by rw [tabN_get]; rfl))) (by decide) ?_; clear hS; intro aa hS
    refine sA hS hR (Yld.gtr hS rfl rfl) (by decide) ?_; clear hS; intro aa hS
    replace hS := hS.sayB (t := 64) false rfl (by exact decide_eq_false (by omega))
    refine sA hS hR (Yld.neqB hS rfl rfl Try.underlying4) (by decide) ?_; clear hS; intro aa hS
    replace hS := hS.sayB (t := 65) false rfl (by rfl)
    refine sA hS hR (Yld.move hS rfl) (by decide) ?_; clear hS; intro aa hS
    refine sAg hS hR rfl rfl (Yld.move hS rfl) (by decide) ?_; clear hS; intro aa hS
    refine sAg hS hR rfl rfl (Yld.eql hS rfl rfl) (by decide) ?_; clear hS; intro aa hS
    replace hS := hS.sayB (t := 68) false rfl (by simp)
    refine sAg hS hR rfl rfl (Yld.move hS rfl) (by decide) ?_; clear hS; intro aa hS
    refine sSkip hS rfl rfl rfl (by decide) ?_; clear hS; intro aa hS
    refine sSkip hS rfl rfl rfl (by decide) ?_; clear hS; intro aa hS
    refine sSkip hS rfl rfl rfl (by decide) ?_; clear hS; intro aa hS
    refine sSkip hS rfl rfl rfl (by decide) ?_; clear hS; intro aa hS
    refine sSkip hS rfl rfl rfl (by decide) ?_; clear hS; intro aa hS
    refine sSkip hS rfl rfl rfl (by decide) ?_; clear hS; intro aa hS
    refine sSkip hS rfl rfl rfl (by decide) ?_; clear hS; intro aa hS
    refine sSkip hS rfl rfl rfl (by decide) ?_; clear hS; intro aa hS
    refine sAg hS hR rfl rfl (Yld.pickF hS rfl rfl) (by decide) ?_; clear hS; intro aa hS
    refine sA hS hR (Yld.pickF hS rfl rfl) (by decide) ?_; clear hS; intro aa hS
    refine sA hS hR (Yld.move hS rfl) (by decide) ?_; clear hS; intro aa hS
    refine sAg hS hR rfl rfl (Yld.move hS rfl) (by decide) ?_; clear hS; intro aa hS
    refine sAg hS hR rfl rfl (Yld.neq hS rfl rfl) (by decide) ?_; clear hS; intro aa hS
    replace hS := hS.sayB (t := 82) true rfl (by simp)
    refine sAg hS hR rfl rfl (Yld.move hS rfl) (by decide) ?_; clear hS; intro aa hS
    refine sAg hS hR rfl rfl (Yld.move hS rfl) (by decide) ?_; clear hS; intro aa hS
    refine sAg hS hR rfl rfl (Yld.neq hS rfl rfl) (by decide) ?_; clear hS; intro aa hS
    replace hS := hS.sayB (t := 85) false rfl (by simp)
    refine sAg hS hR rfl rfl (Yld.pickT hS rfl rfl) (by decide) ?_; clear hS; intro aa hS
    refine sA hS hR (Yld.pickF hS rfl rfl) (by decide) ?_; clear hS; intro aa hS
    refine wpList_nil ?_
    refine hK761 _ _ ?_
    refine condF hS rfl ?_
    refine wp_skip ?_
    refine hK760 _ _ ?_
    refine wp_region_lit ?_
    refine sA hS hR (Yld.move hS rfl) (by decide) ?_; clear hS; intro aa hS
    refine sA hS hR (Yld.move hS rfl) (by decide) ?_; clear hS; intro aa hS
    refine sA hS hR ((by first | exact Yld.indexL (sz := 1) (sl) hS rfl rfl Try.underlying40 info3 pkQ rfl (by first | rfl | omega) (by omega) | exact Yld.indexB (sz := 1) (sl) hS rfl rfl Try.underlying40 info3 rfl (by first | rfl | omega) (by omega))) (by decide) ?_; clear hS; intro aa hS
    refine sB (BstoreT (k := sl) (v := 0) hS hR rfl rfl info3 rfl pkQ (by omega) ?_); clear hR; intro ww hR
    refine wpList_nil ?_
    exact tail757 T (upd ow sl 0) 0 (by omega) (hTn.trans ee3) (hOw.same hoo) _ _ (hS.le (Le.cons rfl (Le.cons rfl (Le.cons rfl (Le.cons rfl (Le.cons rfl (Le.cons rfl (Le.cons rfl (Le.cons rfl (Le.nil _)))))))))) (hR.sub exQ)
   ·
    refine sA hS hR (Yld.fieldAddr hS rfl 1 Try.underlying30 rfl rfl info28 (by decide)) (by decide) ?_; clear hS; intro aa hS
    refine sA hS hR (Yld.load1 hS rfl Try.underlying28 rfl (by first | exact Rd.blk pkQ (by rfl) | exact Rd.rec pkQ (by intro _; rfl) (by omega) rfl | exact Rd.rec0 pkQ (by intro _; rfl) (by omega) rfl | exact Rd.flatJ pkQ (by intro _; rfl) (by omega) rfl | exact Rd.flat0 pkQ (by intro _; rfl) (by omega) rfl)) (by decide) ?_; clear hS; intro aa hS
    refine sA hS hR ((by first | exact Yld.rem64 hS rfl rfl (by omega) | exact Yld.rem hS rfl rfl (by omega))) (by decide) ?_; clear hS; intro aa hS
    refine sB (Bcall hS rfl Try.call14 (soCount_ok (a := s1 % 8) (by omega) (hR.pk (r := sourceA _ b _ _ _) pkQ)) (by decide) ?_); clear hS; intro aa ww vv hS hp
    clear hR
    obtain ⟨rfl, hR⟩ := hp
    refine sA hS hR (Yld.assign hS rfl) (by decide) ?_; clear hS; intro aa hS
    refine wpList_nil ?_
    refine hK735 _ _ ?_
    refine wp_seq_k ?_; intro K762 hK762
    refine wp_region_lit ?_
    refine sA hS hR (Yld.move hS rfl) (by decide) ?_; clear hS; intro aa hS
    refine sA hS hR (Yld.move hS rfl) (by decide) ?_; clear hS; intro aa hS
    refine sA hS hR (Yld.loadAgg hS rfl Try.underlying30 rfl info30 (by first | exact Rds.cons (Rd.blk pkQ (by rfl)) (Rds.cons (Rd.blk pkQ (by rfl)) (Rds.cons (Rd.blk pkQ (by rfl)) (Rds.nil))) | exact Rds.rec pkQ (by intro _; rfl) (by omega) | exact Rds.flat1 pkQ (by intro _; rfl) (by omega)) (by rfl)) (by decide) ?_; clear hS; intro aa hS
    obtain ⟨q0, hoo⟩ : ∃ q0, ofO T.O (sl : Int) = some q0 := by
     cases hv : ofO T.O (sl : Int) with
     | none => exact absurd hv hn
     | some o => exact ⟨o, rfl⟩
    have hq0 := hLow.of hSF hoo
    have how := owO_some hoo
    rw [← hOw sl hslS] at how
    obtain ⟨h1, h2⟩ := cls_ok (S := S) (T := T) hslS hoo
    obtain ⟨ee1, ee2, ee3⟩ := act_close (S := S) (lim := lim) (T := T) (a := s1) (z := s2) hev
    rw [hsl, hoo] at ee1
    rw [hsl, h1] at ee2
    rw [hsl, h2] at ee3
    refine sB (Bcall hS rfl Try.call12 (act31_ok (k := s0) (a := s1) (z := s2) (by omega) (by omega) hw0 hw1 (hR.pk (r := sourceA _ b _ _ _) pkQ)) (by decide) ?_); clear hS; intro aa ww vv hS hp
    clear hR
    obtain ⟨rfl, hR⟩ := hp
    rw [ee1, hsl, ee2] at hS; rw [ee3] at hR
    try dsimp only [Option.getD] at hS
    refine sA hS hR (Yld.move hS rfl) (by decide) ?_; clear hS; intro aa hS
    refine sA hS hR (Yld.extract hS rfl rfl) (by decide) ?_; clear hS; intro aa hS
    refine sA hS hR (Yld.extract hS rfl rfl) (by decide) ?_; clear hS; intro aa hS
    refine sA hS hR (Yld.extract hS rfl rfl) (by decide) ?_; clear hS; intro aa hS
    refine sA hS hR (Yld.assign hS rfl) (by decide) ?_; clear hS; intro aa hS
    refine sA hS hR (Yld.assign hS rfl) (by decide) ?_; clear hS; intro aa hS
    refine sA hS hR (Yld.assign hS rfl) (by decide) ?_; clear hS; intro aa hS
    refine wpList_nil ?_
    refine hK762 _ _ ?_
    refine wp_seq_k ?_; intro K763 hK763
    have tail763 : ∀ (T2 : So) (ow2 : Nat → Nat) (ad : Int) (had : 0 ≤ ad ∧ ad ≤ 4294967295) (hT2 : fT S lim xs (k + 1) = T2) (hOw2 : OwI T2 S ow2) (aa : Act) (ww : World), Has 135 aa [(7, .pointer (some ⟨b, 0, none⟩)), (8, .int .i64 (S : Int)), (9, .int .i64 (lim : Int)), (10, .slice ro S co), (14, .int .u32 ad), (34, .slice (some ⟨ba, ia, none⟩) mm c), (35, .int .i64 (mm : Int)), (36, .int .i64 (k : Int))] → Sep (sourceA ss b S lim T2 :: sls ro S co 3 1 ((tabN S ow2).flatMap e1) :: old W :: l) ww → K763 aa ww := by
     clear hS hR; intro T2 ow2 ad had hT2 hOw2 aa ww hS hR
     refine hK763 _ _ ?_
     have hSF2 : SF S lim T2 := by rw [← hT2]; exact fT_SF (by omega) (by omega)
     have hLow2 : Low T2 := by rw [← hT2]; exact fT_Low
     have hl2 := hSF2.lim ad
     refine wp_seq_k ?_; intro K764 hK764
     refine wp_region_lit ?_
     refine sA hS hR (Yld.move hS rfl) (by decide) ?_; clear hS; intro aa hS
     refine sA hS hR (Yld.move hS rfl) (by decide) ?_; clear hS; intro aa hS
     refine sB (Bcall hS rfl Try.call14 (soCount_ok (a := ad) had (hR.pk (r := sourceA _ b _ _ _) pkQ)) (by decide) ?_); clear hS; intro aa ww vv hS hp
     clear hR
     obtain ⟨rfl, hR⟩ := hp
     refine sA hS hR (Yld.move hS rfl) (by decide) ?_; clear hS; intro aa hS
     refine sA hS hR (Yld.gtr hS rfl rfl) (by decide) ?_; clear hS; intro aa hS
     replace hS := hS.sayB (t := 127) false rfl (by exact decide_eq_false (by omega))
     refine sA hS hR (Yld.move hS rfl) (by decide) ?_; clear hS; intro aa hS
     refine sAg hS hR rfl rfl (Yld.move hS rfl) (by decide) ?_; clear hS; intro aa hS
     refine sAg hS hR rfl rfl (Yld.move hS rfl) (by decide) ?_; clear hS; intro aa hS
     refine sBg hS rfl rfl (Bcall hS rfl Try.call24 (counts_ok hOw2 hSF2 hLow2 (by omega) ((hR.pk (r := sls ro _ _ _ _ _) pkQ).pk (r := sourceA _ b _ _ _) pkQ)) (by decide) ?_); clear hS; intro aa ww vv hS hp
     clear hR
     obtain ⟨rfl, hR⟩ := hp
     refine sAg hS hR rfl rfl (Yld.not hS rfl) (by decide) ?_; clear hS; intro aa hS
     replace hS := hS.sayB (t := 132) false rfl (by rfl)
     refine sA hS hR (Yld.pickF hS rfl rfl) (by decide) ?_; clear hS; intro aa hS
     refine wpList_nil ?_
     refine hK764 _ _ ?_
     refine condF hS rfl ?_
     refine wp_skip ?_
     refine hK733 _ _ ?_
     refine wp_region_lit ?_
     refine sA hS hR ((by first | exact Yld.add64 hS rfl rfl (by omega) | exact Yld.add hS rfl rfl)) (by decide) ?_; clear hS; intro aa hS
     refine sA hS hR (Yld.move hS rfl) (by decide) ?_; clear hS; intro aa hS
     refine wpList_nil ?_
     rw [← hT2] at hR hOw2
     refine ⟨(k + 1, ow2), ?_, ?_, hS.le (Le.cons rfl (Le.nilapp (Le.cons rfl (Le.cons rfl (Le.cons rfl (Le.cons rfl (Le.cons rfl (Le.cons rfl (Le.nil _))))))))), hR.sub (Ex.take pkQ (Ex.take pkQ (Ex.nilapp exQ)))⟩
     ·
      dsimp only; exact ⟨by omega, hOw2⟩
     ·
      dsimp only; omega
    refine wp_block ?_
    refine wp_seq_k ?_; intro K765 hK765
    refine wp_region_lit ?_
    refine sA hS hR (Yld.fieldAddr hS rfl 0 Try.underlying30 rfl rfl info5 (by decide)) (by decide) ?_; clear hS; intro aa hS
    refine sA hS hR (Yld.load1 hS rfl Try.underlying5 rfl (by first | exact Rd.blk pkQ (by rfl) | exact Rd.rec pkQ (by intro _; rfl) (by omega) rfl | exact Rd.rec0 pkQ (by intro _; rfl) (by omega) rfl | exact Rd.flatJ pkQ (by intro _; rfl) (by omega) rfl | exact Rd.flat0 pkQ (by intro _; rfl) (by omega) rfl)) (by decide) ?_; clear hS; intro aa hS
    refine sA hS hR ((by first | exact Yld.rem64 hS rfl rfl (by omega) | exact Yld.rem hS rfl rfl (by omega))) (by decide) ?_; clear hS; intro aa hS
    refine sA hS hR (Yld.eql hS rfl rfl) (by decide) ?_; clear hS; intro aa hS
    replace hS := hS.sayB (t := 57) true rfl (by exact decide_eq_true (by omega))
    refine sA hS hR (Yld.assign hS rfl) (by decide) ?_; clear hS; intro aa hS
    refine wpList_nil ?_
    refine hK765 _ _ ?_
    refine condT hS rfl ?_
    refine wp_seq_k ?_; intro K766 hK766
    refine wp_seq_k ?_; intro K767 hK767
    refine wp_region_lit ?_
    refine sA hS hR (Yld.move hS rfl) (by decide) ?_; clear hS; intro aa hS
    refine sA hS hR (Yld.eql hS rfl rfl) (by decide) ?_; clear hS; intro aa hS
    replace hS := hS.sayB (t := 59) true rfl (by simp)
    refine sA hS hR (Yld.move hS rfl) (by decide) ?_; clear hS; intro aa hS
    refine sA hS hR (Yld.move hS rfl) (by decide) ?_; clear hS; intro aa hS
    refine sA hS hR ((by first | exact Yld.indexL (sz := 1) (sl) hS rfl rfl Try.underlying40 info3 pkQ rfl (by first | rfl | omega) (by omega) | exact Yld.indexB (sz := 1) (sl) hS rfl rfl Try.underlying40 info3 rfl (by first | rfl | omega) (by omega))) (by decide) ?_; clear hS; intro aa hS
    refine sA hS hR (Yld.load1 hS rfl Try.underlying3 rfl (Rd.rec0 (k := sl) (xs := tabN S ow) (v := .int .i64 ((ow sl : Nat) : Int)) pkQ (by intro _; rfl) (by rw [tabN_len]; omega) (by rw [tabN_get]; rfl))) (by decide) ?_; clear hS; intro aa hS
    refine sA hS hR (Yld.gtr hS rfl rfl) (by decide) ?_; clear hS; intro aa hS
    replace hS := hS.sayB (t := 64) true rfl (by exact decide_eq_true (by omega))
    refine sA hS hR (Yld.neqB hS rfl rfl Try.underlying4) (by decide) ?_; clear hS; intro aa hS
    replace hS := hS.sayB (t := 65) false rfl (by rfl)
    refine sA hS hR (Yld.move hS rfl) (by decide) ?_; clear hS; intro aa hS
    refine sAg hS hR rfl rfl (Yld.move hS rfl) (by decide) ?_; clear hS; intro aa hS
    refine sAg hS hR rfl rfl (Yld.eql hS rfl rfl) (by decide) ?_; clear hS; intro aa hS
    replace hS := hS.sayB (t := 68) true rfl (by simp)
    refine sAg hS hR rfl rfl (Yld.move hS rfl) (by decide) ?_; clear hS; intro aa hS
    refine sAg hS hR rfl rfl (Yld.move hS rfl) (by decide) ?_; clear hS; intro aa hS
    refine sAg hS hR rfl rfl ((by first | exact Yld.to (Yld.convInt hS rfl rfl Try.underlying3) (congrArg (Value.int .i64) (IntWalk.i64_in _ (by omega))) | exact Yld.convInt hS rfl rfl Try.underlying3)) (by decide) ?_; clear hS; intro aa hS
    refine sAg hS hR rfl rfl ((by first | exact Yld.add64 hS rfl rfl (by omega) | exact Yld.add hS rfl rfl)) (by decide) ?_; clear hS; intro aa hS
    refine sAg hS hR rfl rfl (Yld.move hS rfl) (by decide) ?_; clear hS; intro aa hS
    refine sAg hS hR rfl rfl (Yld.move hS rfl) (by decide) ?_; clear hS; intro aa hS
    refine sAg hS hR rfl rfl ((by first | exact Yld.indexL (sz := 1) (sl) hS rfl rfl Try.underlying40 info3 pkQ rfl (by first | rfl | omega) (by omega) | exact Yld.indexB (sz := 1) (sl) hS rfl rfl Try.underlying40 info3 rfl (by first | rfl | omega) (by omega))) (by decide) ?_; clear hS; intro aa hS
    refine sAg hS hR rfl rfl (Yld.load1 hS rfl Try.underlying3 rfl (Rd.rec0 (k := sl) (xs := tabN S ow) (v := .int .i64 ((ow sl : Nat) : Int)) pkQ (by intro _; rfl) (by rw [tabN_len]; omega) (by rw [tabN_get]; rfl))) (by decide) ?_; clear hS; intro aa hS
    refine sAg hS hR rfl rfl (Yld.neq hS rfl rfl) (by decide) ?_; clear hS; intro aa hS
    replace hS := hS.sayB (t := 77) false rfl (by exact decide_eq_false (by omega))
    refine sAg hS hR rfl rfl (Yld.pickT hS rfl rfl) (by decide) ?_; clear hS; intro aa hS
    refine sA hS hR (Yld.pickF hS rfl rfl) (by decide) ?_; clear hS; intro aa hS
    refine sA hS hR (Yld.move hS rfl) (by decide) ?_; clear hS; intro aa hS
    refine sAg hS hR rfl rfl (Yld.move hS rfl) (by decide) ?_; clear hS; intro aa hS
    refine sAg hS hR rfl rfl (Yld.neq hS rfl rfl) (by decide) ?_; clear hS; intro aa hS
    replace hS := hS.sayB (t := 82) false rfl (by simp)
    refine sAg hS hR rfl rfl (Yld.move hS rfl) (by decide) ?_; clear hS; intro aa hS
    refine sSkip hS rfl rfl rfl (by decide) ?_; clear hS; intro aa hS
    refine sSkip hS rfl rfl rfl (by decide) ?_; clear hS; intro aa hS
    refine sAg hS hR rfl rfl (Yld.pickF hS rfl rfl) (by decide) ?_; clear hS; intro aa hS
    refine sA hS hR (Yld.pickF hS rfl rfl) (by decide) ?_; clear hS; intro aa hS
    refine wpList_nil ?_
    refine hK767 _ _ ?_
    refine condF hS rfl ?_
    refine wp_skip ?_
    refine hK766 _ _ ?_
    refine wp_region_lit ?_
    refine sA hS hR (Yld.move hS rfl) (by decide) ?_; clear hS; intro aa hS
    refine sA hS hR (Yld.move hS rfl) (by decide) ?_; clear hS; intro aa hS
    refine sA hS hR ((by first | exact Yld.indexL (sz := 1) (sl) hS rfl rfl Try.underlying40 info3 pkQ rfl (by first | rfl | omega) (by omega) | exact Yld.indexB (sz := 1) (sl) hS rfl rfl Try.underlying40 info3 rfl (by first | rfl | omega) (by omega))) (by decide) ?_; clear hS; intro aa hS
    refine sB (BstoreT (k := sl) (v := 0) hS hR rfl rfl info3 rfl pkQ (by omega) ?_); clear hR; intro ww hR
    refine wpList_nil ?_
    exact tail763 (remO T q0 sl) (upd ow sl 0) q0 (by omega) (hTn.trans ee3) hOw.closed _ _ (hS.le (Le.cons rfl (Le.cons rfl (Le.cons rfl (Le.cons rfl (Le.cons rfl (Le.cons rfl (Le.cons rfl (Le.cons rfl (Le.nil _)))))))))) (hR.sub exQ)
 ·
  intro hg hS
  refine condF hS rfl ?_
  refine wp_exit ?_
  refine hK728 _ _ ?_
  refine wp_seq_k ?_; intro K768 hK768
  refine wp_region_lit ?_
  refine sA hS hR (Yld.assign hS rfl) (by decide) ?_; clear hS; intro aa hS
  refine wpList_nil ?_
  refine hK768 _ _ ?_
  refine wp_ret ?_
  repeat (first | with_reducible refine thenR ?_ | with_reducible refine blockR ?_ | with_reducible refine scopeR ?_)
  refine ret1 (fn := Try.f6) (e := .ret) (.inl rfl) Try.results6 hS hR ⟨_, (.tmp rfl), ?_⟩
  exact ⟨rfl, (hR.sub exQ)⟩
end Go.Proofs.Ythjfclljjcpikaa.Sx
