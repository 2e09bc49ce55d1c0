/-
 
-/
import Derived.Test.YtkhdejjompbklaaTLwB
import Derived.Test.YtkhdejjompbklaaTPza
namespace Go.Proofs.Ytkhdejjompbklaa.Sx
open Go
set_option maxRecDepth 20000
set_option linter.unusedVariables false
set_option linter.unusedSimpArgs false
set_option maxHeartbeats 4000000 in
theorem AdmitTokens_ok {W : World} {q : Option Addr} {n c : Nat} {n0 n1 n2 n3 n4 : Int} {z wt0 : Int} {xs : List (List Int)} (A1 : ArgS W [.u8, .u32, .i64] q n c xs) {l : List HP} {w : World} (h0 : 0 ≤ n0 ∧ n0 ≤ 255) (h1 : 0 ≤ n1 ∧ n1 ≤ 255) (h2 : 0 ≤ n2 ∧ n2 ≤ 255) (h3 : 0 ≤ n3 ∧ n3 ≤ 255) (h4 : 0 ≤ n4 ∧ n4 ≤ 255) (hz : 0 ≤ z ∧ z ≤ 4294967295) (hwt : 0 ≤ wt0 ∧ wt0 ≤ 255) (hR : Sep (old W :: l) w) : CallR Try.prog 3 [.agg [.int .u8 n0, .int .u8 n1, .int .u8 n2, .int .u8 n3, .int .u8 n4].toArray, .slice q n c, .int .u32 z, .int .u8 wt0] w (fun v w' => v = .bool true ∧ Sep (old W :: l) w') := by
 refine enter Try.func3 rfl Try.ntmps3 (Nat.le_of_ble_eq_true rfl) ?_; intro aa hS
 refine wp_seq_k ?_; intro K886 hK886
 refine wp_region_lit ?_
 refine sB (Bbox hS hR rfl (by rfl) (by decide) ?_); clear hS hR; intro aa ww bb4 hS hR
 revert aa
 refine qN hR ?_
 intro aa hS
 refine wpList_nil ?_
 refine hK886 _ _ ?_
 refine wp_seq_k ?_; intro K887 hK887
 refine wp_seq_k ?_; intro K888 hK888
 refine wp_region_lit ?_
 refine sB (Bcall hS rfl Try.call8 (awake34_ok hR) (by decide) ?_); clear hS; intro aa ww vv hS hp
 clear hR
 obtain ⟨rfl, hR⟩ := hp
 refine sA hS hR (Yld.not hS rfl) (by decide) ?_; clear hS; intro aa hS
 refine wpList_nil ?_
 refine hK888 _ _ ?_
 refine condF hS rfl ?_
 refine wp_skip ?_
 refine hK887 _ _ ?_
 refine wp_seq_k ?_; intro K889 hK889
 refine wp_region_lit ?_
 refine sA hS hR (Yld.loadAgg hS rfl Try.underlying23 rfl info23 (by first | exact Rds.cons (Rd.blk pkQ (by rfl)) (Rds.cons (Rd.blk pkQ (by rfl)) (Rds.cons (Rd.blk pkQ (by rfl)) (Rds.cons (Rd.blk pkQ (by rfl)) (Rds.cons (Rd.blk pkQ (by rfl)) (Rds.nil))))) | exact Rds.rec pkQ (by intro _; rfl) (by first | omega | (rw [cst_len]; omega)) | exact Rds.flat1 pkQ (by intro _; rfl) (by first | omega | (rw [cst_len]; omega))) (by rfl)) (by decide) ?_; clear hS; intro aa hS
 revert aa
 refine qM hR ?_
 intro aa hS
 refine sB (Bcall hS rfl Try.call9 (made_ok A1 h0 h1 h2 h3 h4 (hR.pk (r := old W) pkQ)) (by decide) ?_); clear hS; intro aa ww vv hS hp
 clear hR
 obtain ⟨b, S, lim, t, p, u, D, rfl, hSe, hle, hte, hpe, hue, hM, hR⟩ := hp
 obtain ⟨hDF, hsix, hun, hnw⟩ := hM
 have hnow := hDF.w.now
 have hol := hDF.w.olen
 have hRR := hDF.rr
 revert aa
 refine qM hR ?_
 refine qX hR ?_
 refine qX hR ?_
 intro aa hS
 refine sB (Balloc hS hR info31 (by rfl) (by rfl) (by decide) ?_); clear hS hR; intro aa ww bb10 hS hR
 revert aa
 refine qN hR ?_
 intro aa hS
 refine sB (Bstore hS hR rfl rfl (by rfl) info31 (by rfl) pkQ (by rfl) (Nat.le_of_ble_eq_true rfl) ?_); clear hR; intro ww hR
 refine wpList_nil ?_
 refine hK889 _ _ ?_
 refine wp_seq_k ?_; intro K890 hK890
 refine wp_seq_k ?_; intro K891 hK891
 refine wp_region_lit ?_
 revert aa
 refine qM hR ?_
 refine qA hR rfl (fun _ hS => Yld.eqlNil hS rfl rfl Try.underlying27) ?_
 refine qB (t := 29) false rfl (by rfl) ?_
 intro aa hS
 refine wpList_nil ?_
 refine hK891 _ _ ?_
 refine condF hS rfl ?_
 refine wp_skip ?_
 refine hK890 _ _ ?_
 refine wp_seq_k ?_; intro K892 hK892
 refine wp_region_lit ?_
 revert aa
 refine qM hR ?_
 refine qA hR rfl (fun _ hS => by first | exact Yld.rem64 hS rfl rfl (by omega) | exact Yld.rem hS rfl rfl (by omega)) ?_
 intro aa hS
 obtain ⟨a, hae, ha0, ha1⟩ : ∃ y, z % 6 = y ∧ 0 ≤ y ∧ y < 6 := ⟨_, rfl, by omega, by omega⟩
 replace hS := hS.say (t := 31) (.int .u32 a) rfl (by rw [hae])
 have htk := hDF.tok (a := a) (n := D.now) ⟨Int.le_refl _, hnow.2⟩
 have hlim := hDF.w.sf.lim a
 revert aa
 refine qN hR ?_
 intro aa hS
 refine wpList_nil ?_
 refine hK892 _ _ ?_
 refine wp_seq_k ?_; intro K893 hK893
 refine wp_region_lit ?_
 revert aa
 refine qM hR ?_
 refine qM hR ?_
 intro aa hS
 refine sB (Bcall hS rfl Try.call10 (adTokens_ok (a := a) hDF (by omega) (hR.pk (r := deskA _ b _ _ _ _) pkQ)) (by decide) ?_); clear hS; intro aa ww vv hS hp
 clear hR
 obtain ⟨rfl, hR⟩ := hp
 revert aa
 refine qM hR ?_
 refine qM hR ?_
 intro aa hS
 refine sB (Bcall hS rfl Try.call11 (adCount_ok (a := a) (by omega) (hR.pk (r := deskA _ b _ _ _ _) pkQ)) (by decide) ?_); clear hS; intro aa ww vv hS hp
 clear hR
 obtain ⟨rfl, hR⟩ := hp
 revert aa
 refine qN hR ?_
 refine qN hR ?_
 intro aa hS
 refine wpList_nil ?_
 refine hK893 _ _ ?_
 refine wp_seq_k ?_; intro K894 hK894
 refine wp_seq_k ?_; intro K895 hK895
 have tail895 : ∀ (bb10 : Nat) (aa : Act) (ww : World), Has 130 aa [(57, .bool false), (2, .int .u32 a), (3, .int .u8 wt0), (9, .pointer (some ⟨b, 0, none⟩)), (10, .pointer (some ⟨bb10, 0, none⟩)), (11, .int .i64 (bkD t p u D.T D.B a D.now / p))] → Sep (deskA dd b S lim (t, p, u) D :: blk bb10 [.int .i64 (S : Int), .int .i64 (lim : Int), .int .i64 t, .int .i64 p, .int .i64 u] 31 :: old W :: l) ww → K895 aa ww := by
  clear hS hR; intro bb10 aa ww hS hR
  refine hK895 _ _ ?_
  refine hS.splitB (t := 57) rfl ?_ ?_ <;> clear hS
  ·
   intro hg hS
   cases hg
  ·
   intro hg hS
   refine condF hS rfl ?_
   refine wp_skip ?_
   refine hK894 _ _ ?_
   refine wp_seq_k ?_; intro K896 hK896
   refine wp_region_lit ?_
   revert aa
   refine qM hR ?_
   refine qA hR rfl (fun _ hS => by first | exact Yld.to (Yld.convInt hS rfl rfl Try.underlying3) (congrArg (Value.int .i64) (IntWalk.i64_in _ (by omega))) | exact Yld.convInt hS rfl rfl Try.underlying3) ?_
   refine qA hR rfl (fun _ hS => by first | exact Yld.rem64 hS rfl rfl (by omega) | exact Yld.rem hS rfl rfl (by omega)) ?_
   intro aa hS
   obtain ⟨wt, hwte, hwt0, hwt1⟩ : ∃ y, wt0 % 40 = y ∧ 0 ≤ y ∧ y < 40 := ⟨_, rfl, by omega, by omega⟩
   replace hS := hS.say (t := 60) (.int .i64 wt) rfl (by rw [hwte])
   revert aa
   refine qN hR ?_
   intro aa hS
   refine wpList_nil ?_
   refine hK896 _ _ ?_
   refine wp_seq_k ?_; intro K897 hK897
   refine wp_region_lit ?_
   revert aa
   refine qM hR ?_
   refine qM hR ?_
   intro aa hS
   refine sB (Bcall hS rfl Try.call13 (adNow_ok (hR.pk (r := deskA _ b _ _ _ _) pkQ)) (by decide) ?_); clear hS; intro aa ww vv hS hp
   clear hR
   obtain ⟨rfl, hR⟩ := hp
   revert aa
   refine qM hR ?_
   intro aa hS
   refine sA hS hR adQ (by decide) ?_; clear hS; intro aa hS
   revert aa
   refine qM hR ?_
   intro aa hS
   refine sB (Bcall hS rfl Try.call12 (adTry_ok (n := D.now + wt) (a := a) hDF (by omega) (by omega) (by omega) (hR.pk (r := deskA _ b _ _ _ _) pkQ)) (by decide) ?_); clear hS; intro aa ww vv hS hp
   clear hR
   obtain ⟨rfl, hR⟩ := hp
   obtain ⟨y, hy⟩ : ∃ y, tryD lim t p u D (D.now + wt) a = y := ⟨_, rfl⟩
   rw [hy] at hS hR
   unfold tryV at hS
   have hnn : D.now ≤ D.now + wt ∧ D.now + wt ≤ 1099511627776 := by omega
   have hye : y.1.2.2.2.2 = 0 := by rw [← hy]; exact tryD_e hnn
   rw [hye] at hS
   have hyF : DKF S lim t p u y.2 := by rw [← hy]; exact hDF.try (by omega)
   have hyn : y.2.now = D.now + wt := by rw [← hy]; exact tryD_now2 hnn
   have hbk := try_bk (a := a) hDF (by omega) hnn
   rw [hy] at hbk
   have htk2 := hDF.tok (a := a) hnn
   have hmn := tok_mono (t := t) (p := p) (u := u) (D := D) (a := a) (n1 := D.now) (n2 := D.now + wt) (by omega) (by omega) (by omega)
   have hsd := sub_div (p := p) (L := bkD t p u D.T D.B a (D.now + wt)) (by omega)
   have hw0 : wt = 0 → bkD t p u D.T D.B a (D.now + wt) / p = bkD t p u D.T D.B a D.now / p := fun e => by rw [e, Int.add_zero]
   have hsl := Nat.le_trans (slO_len (O := y.2.T.O) (a := a)) hyF.w.olen
   obtain ⟨sl, hsle⟩ : ∃ z, slO y.2.T.O a = z := ⟨_, rfl⟩
   have hC0 : ClI S lim t p u a sl 0 y.2 := ⟨hyF, Nat.zero_le _, by rw [hsle]; rfl⟩
   revert aa
   refine qM hR ?_
   refine qX hR ?_
   refine qX hR ?_
   intro aa hS
   refine sB (Balloc hS hR info36 (by rfl) (by rfl) (by decide) ?_); clear hS hR; intro aa ww bb14 hS hR
   refine sB (Bstore hS hR rfl rfl (by rfl) info36 (by rfl) pkQ (by rfl) (Nat.le_of_ble_eq_true rfl) ?_); clear hR; intro ww hR
   revert aa
   refine qN hR ?_
   intro aa hS
   refine wpList_nil ?_
   refine hK897 _ _ ?_
   refine wp_seq_k ?_; intro K898 hK898
   refine wp_region_lit ?_
   revert aa
   refine qM hR ?_
   refine qM hR ?_
   intro aa hS
   refine sB (Bcall hS rfl Try.call10 (adTokens_ok (a := a) hyF (by omega) (hR.pk (r := deskA _ b _ _ _ _) pkQ)) (by decide) ?_); clear hS; intro aa ww vv hS hp
   clear hR
   obtain ⟨rfl, hR⟩ := hp
   rw [hyn, hbk] at hS
   obtain ⟨AF, hAF⟩ : ∃ x, (if y.1.1 = 22 then bkD t p u D.T D.B a (D.now + wt) - p else bkD t p u D.T D.B a (D.now + wt)) / p = x := ⟨_, rfl⟩
   rw [hAF] at hS
   have hAF0 := hyF.tok (a := a) (n := y.2.now) ⟨Int.le_refl _, hyF.w.now.2⟩
   rw [hyn, hbk, hAF] at hAF0
   revert aa
   refine qN hR ?_
   intro aa hS
   refine wpList_nil ?_
   refine hK898 _ _ ?_
   refine wp_seq_k ?_; intro K899 hK899
   refine wp_region_lit ?_
   revert aa
   refine qN hR ?_
   intro aa hS
   refine wpList_nil ?_
   refine hK899 _ _ ?_
   refine wp_seq_k ?_; intro K900 hK900
   have tail900 : ∀ (bb10 : Nat) (pd : Int) (hpd : AF + pd = bkD t p u D.T D.B a (D.now + wt) / p) (aa : Act) (ww : World), Has 130 aa [(2, .int .u32 a), (9, .pointer (some ⟨b, 0, none⟩)), (10, .pointer (some ⟨bb10, 0, none⟩)), (11, .int .i64 (bkD t p u D.T D.B a D.now / p)), (13, .int .i64 wt), (15, .int .i64 0), (16, .int .i64 AF), (17, .int .i64 pd)] → Sep (deskA dd b S lim (t, p, u) y.2 :: blk bb10 [.int .i64 (S : Int), .int .i64 (lim : Int), .int .i64 t, .int .i64 p, .int .i64 u] 31 :: old W :: l) ww → K900 aa ww := by
    clear hS hR; intro bb10 pd hpd aa ww hS hR
    refine hK900 _ _ ?_
    refine wp_seq_k ?_; intro K901 hK901
    refine wp_seq_k ?_; intro K902 hK902
    have tail902 : ∀ (bb10 : Nat) (aa : Act) (ww : World), Has 130 aa [(103, .bool false), (2, .int .u32 a), (9, .pointer (some ⟨b, 0, none⟩)), (10, .pointer (some ⟨bb10, 0, none⟩))] → Sep (deskA dd b S lim (t, p, u) y.2 :: blk bb10 [.int .i64 (S : Int), .int .i64 (lim : Int), .int .i64 t, .int .i64 p, .int .i64 u] 31 :: old W :: l) ww → K902 aa ww := by
     clear hS hR; intro bb10 aa ww hS hR
     refine hK902 _ _ ?_
     refine hS.splitB (t := 103) rfl ?_ ?_ <;> clear hS
     ·
      intro hg hS
      cases hg
     ·
      intro hg hS
      refine condF hS rfl ?_
      refine wp_skip ?_
      refine hK901 _ _ ?_
      refine wp_seq_k ?_; intro K903 hK903
      refine wp_seq_k ?_; intro K904 hK904
      refine wp_region_lit ?_
      revert aa
      refine qM hR ?_
      refine qM hR ?_
      intro aa hS
      refine sB (Bcall hS rfl Try.call14 (adSlots_ok (a := a) (by omega) (hR.pk (r := deskA _ b _ _ _ _) pkQ)) (by decide) ?_); clear hS; intro aa ww vv hS hp
      clear hR
      obtain ⟨ra, ca, rfl, hR⟩ := hp
      rw [hsle] at hS hR hsl
      revert aa
      refine qA hR rfl (fun _ hS => Yld.len hS rfl Try.underlying41) ?_
      refine qM hR ?_
      intro aa hS
      refine wpList_nil ?_
      refine hK904 _ _ ?_
      refine wp_block ?_
      replace hR := hR.pk (r := deskA dd b S lim (t, p, u) y.2) pkQ
      refine loopI (X := Nat × Dk) [(2, _), (9, _), (10, _), (106, _), (107, _)] (fun x => [(108, .int .i64 (x.1 : Int))]) (fun x => [deskA dd b S lim (t, p, u) x.2]) _ (fun x => ClI S lim t p u a sl x.1 x.2) (fun x => sl.length - x.1) (0, y.2) hC0 (hS.le (Le.cons rfl (Le.nilapp (Le.cons rfl (Le.cons rfl (Le.cons rfl (Le.cons rfl (Le.cons rfl (Le.nil _))))))))) hR ?_
      clear hS hR; rintro ⟨i, E⟩ aa ww hI hS hR; dsimp only [List.cons_append, List.nil_append] at hI hS hR
      refine wp_seq_k ?_; intro K906 hK906
      refine wp_region_lit ?_
      refine sA hS hR (Yld.lss hS rfl rfl) (by decide) ?_; clear hS; intro aa hS
      refine wpList_nil ?_
      refine hK906 _ _ ?_
      refine wp_seq_k ?_; intro K907 hK907
      refine hS.splitB (t := 109) rfl ?_ ?_ <;> clear hS
      ·
       intro hg hS
       have hi : i < sl.length := by rw [cst_len] at hg; omega
       obtain ⟨s, hse⟩ : ∃ y, sl[i] = y := ⟨_, rfl⟩
       have hst := hI.step hi
       rw [hse] at hst
       refine condT hS rfl ?_
       refine wp_skip ?_
       refine hK907 _ _ ?_
       refine wp_seq_k ?_; intro K908 hK908
       refine wp_block ?_
       refine wp_seq_k ?_; intro K909 hK909
       refine wp_region_lit ?_
       revert aa
       refine qA hR rfl (fun _ hS => ilQ 1 (i) Try.underlying41 info3) ?_
       refine qA hR rfl (fun _ hS => Yld.load1 hS rfl Try.underlying3 rfl (Rd.rec0 (k := i) (xs := cst sl) (v := .int .i64 ((s : Nat) : Int)) pkQ (by intro _; rfl) (by rw [cst_len]; exact hi) (by simp only [cst, List.getElem_map, hse]; rfl))) ?_
       refine qN hR ?_
       intro aa hS
       refine wpList_nil ?_
       refine hK909 _ _ ?_
       refine wp_seq_k ?_; intro K910 hK910
       refine wp_region_lit ?_
       revert aa
       refine qM hR ?_
       refine qM hR ?_
       intro aa hS
       refine sB (Bcall hS rfl Try.call15 (adClose_ok (x := ((s : Nat) : Int)) hI.f.w (hR.pk (r := deskA _ b _ _ _ _) pkQ)) (by decide) ?_); clear hS; intro aa ww vv hS hp
       clear hR
       obtain ⟨rfl, hR⟩ := hp
       rw [hst.2.2] at hS
       revert aa
       refine qA hR rfl (fun _ hS => Yld.neq hS rfl rfl) ?_
       refine qB (t := 115) false rfl (by decide) ?_
       intro aa hS
       refine wpList_nil ?_
       refine hK910 _ _ ?_
       refine condF hS rfl ?_
       refine wp_skip ?_
       refine hK908 _ _ ?_
       refine wp_region_lit ?_
       refine sA hS hR adQ (by decide) ?_; clear hS; intro aa hS
       revert aa
       refine qM hR ?_
       intro aa hS
       refine wpList_nil ?_
       refine ⟨(i + 1, _), ?_, ?_, hS.le (Le.cons rfl (Le.nilapp (Le.cons rfl (Le.cons rfl (Le.cons rfl (Le.cons rfl (Le.cons rfl (Le.nil _)))))))), hR.sub (Ex.take pkQ (Ex.nilapp exQ))⟩
       ·
        exact hst.1
       ·
        dsimp only; omega
      ·
       intro hg hS
       obtain rfl : i = sl.length := by have := hI.le; rw [cst_len] at hg; omega
       refine condF hS rfl ?_
       refine wp_exit ?_
       refine hK903 _ _ ?_
       refine wp_seq_k ?_; intro K911 hK911
       refine drawn krQ hR Ex.refl ?_; clear hR; intro ww hR hR0
       revert aa
       refine eA 0 rfl krQ (fun _ _ _ h => h) hR0 rfl (fun _ hS => Yld.move hS rfl) ?_
       refine eA 1 rfl krQ (fun _ _ _ h => h) hR0 rfl (fun _ hS => Yld.move hS rfl) ?_
       intro aa hS
       refine dOne (i := 2) krQ ?_
       refine dop rfl (Bcall hS rfl Try.call11 (adCount_ok (a := a) (by omega) (hR.pk (r := deskA _ b _ _ _ _) pkQ)) (by decide) ?_); clear hS; intro aa ww vv hS hp
       clear hR hR0
       obtain ⟨rfl, hR⟩ := hp
       rw [hI.eq, List.drop_length] at hS
       refine dnext (hR.sub exQ) ?_; intro hR0
       revert aa
       refine eA 3 rfl krQ (fun _ _ _ h => h) hR0 rfl (fun _ hS => Yld.eql hS rfl rfl) ?_
       refine qB (t := 120) true rfl (by rfl) ?_
       refine eA 4 rfl krQ (fun _ _ _ h => h) hR0 rfl (fun _ hS => Yld.move hS rfl) ?_
       refine eAg 5 rfl krQ (fun _ _ _ h => h) hR0 rfl rfl rfl (fun _ hS => Yld.move hS rfl) ?_
       refine eAg 6 rfl krQ (fun _ _ _ h => h) hR0 rfl rfl rfl (fun _ hS => Yld.move hS rfl) ?_
       refine eAg 8 rfl krQ (fun _ _ _ h => h) hR0 rfl rfl rfl (fun _ hS => Yld.fieldAddr hS rfl 2 Try.underlying31 rfl rfl info29 (by decide)) ?_
       refine eAg 9 rfl krQ (fun _ _ _ h => h) hR0 rfl rfl rfl (fun _ hS => Yld.fieldAddr hS rfl 2 Try.underlying29 rfl rfl info3 (by decide)) ?_
       intro aa hS
       refine dAg 10 rfl krQ krQ krQ (fun _ _ _ h => h) hS rfl rfl hR0 (Yld.load1 hS rfl Try.underlying3 rfl (by first | exact Rd.blk pkQ (by rfl) | exact Rd.rec pkQ (by intro _; rfl) (by first | omega | (rw [cst_len]; omega)) rfl | exact Rd.rec0 pkQ (by intro _; rfl) (by first | omega | (rw [cst_len]; omega)) rfl | exact Rd.flatJ pkQ (by intro _; rfl) (by first | omega | (rw [cst_len]; omega)) rfl | exact Rd.flat0 pkQ (by intro _; rfl) (by first | omega | (rw [cst_len]; omega)) rfl)) (by decide) ?_; clear hS; intro aa hS
       refine dOne (i := 7) krQ ?_
       refine dopg rfl hS rfl rfl (Bcall hS rfl Try.call10 (adTokens_ok (a := a) hI.f (by omega) (hR.pk (r := deskA _ b _ _ _ _) pkQ)) (by decide) ?_); clear hS; intro aa ww vv hS hp
       clear hR hR0
       obtain ⟨rfl, hR⟩ := hp
       rw [(hI.f.tok (a := a) (n := E.now) ⟨Int.le_refl _, hI.f.w.now.2⟩).2.2 (by rw [hI.eq, List.drop_length]; rfl)] at hS
       refine dnext (hR.sub exQ) ?_; intro hR0
       revert aa
       refine eAg 11 rfl krQ (fun _ _ _ h => h) hR0 rfl rfl rfl (fun _ hS => Yld.eql hS rfl rfl) ?_
       refine qB (t := 128) true rfl (by exact decide_eq_true rfl) ?_
       refine eA 12 rfl krQ (fun _ _ _ h => h) hR0 rfl (fun _ hS => Yld.pickT hS rfl rfl) ?_
       refine eA 13 rfl krQ (fun _ _ _ h => h) hR0 rfl (fun _ hS => Yld.assign hS rfl) ?_
       intro aa hS
       refine wpAnyH_done krQ ?_ _; clear hR0
       refine hK911 _ _ ?_
       refine wp_ret ?_
       repeat first | with_reducible refine thenR ?_ | with_reducible refine blockR ?_ | with_reducible refine scopeR ?_
       refine ret1 (fn := Try.f3) (e := .ret) (.inl rfl) Try.results3 hS hR ⟨_, (.tmp rfl), ?_⟩
       exact ⟨rfl, (hR.sub exQ)⟩
    refine wp_region_lit ?_
    revert aa
    refine qM hR ?_
    refine qA hR rfl (fun _ hS => Yld.neq hS rfl rfl) ?_
    refine qB (t := 78) false rfl (by decide) ?_
    refine qM hR ?_
    refine qMg hR ?_
    refine qMg hR ?_
    intro aa hS
    refine sAg hS hR rfl rfl adQ (by decide) ?_; clear hS; intro aa hS
    revert aa
    refine qMg hR ?_
    refine qAg hR rfl rfl rfl (fun _ hS => Yld.lss hS rfl rfl) ?_
    refine qB (t := 84) false rfl (by exact decide_eq_false (by omega)) ?_
    refine qA hR rfl (fun _ hS => Yld.pickF hS rfl rfl) ?_
    refine qM hR ?_
    refine qMg hR ?_
    refine qAg hR rfl rfl rfl (fun _ hS => Yld.eql hS rfl rfl) ?_
    refine qMg hR ?_
    intro aa hS
    refine hS.splitB (t := 89) rfl ?_ ?_ <;> clear hS
    ·
     intro hg hS
     revert aa
     refine qMg hR ?_
     refine qMg hR ?_
     intro aa hS
     refine sAg hS hR rfl rfl adQ (by decide) ?_; clear hS; intro aa hS
     revert aa
     refine qMg hR ?_
     refine qAg hR rfl rfl rfl (fun _ hS => Yld.neq hS rfl rfl) ?_
     refine qB (t := 94) false rfl (by exact decide_eq_false (fun hc => hc (by omega))) ?_
     refine qAg hR rfl rfl rfl (fun _ hS => Yld.pickT hS rfl rfl) ?_
     refine qA hR rfl (fun _ hS => Yld.pickF hS rfl rfl) ?_
     refine qM hR ?_
     refine qMg hR ?_
     refine qAg hR rfl rfl rfl (fun _ hS => Yld.fieldAddr hS rfl 2 Try.underlying31 rfl rfl info29 (by decide)) ?_
     refine qAg hR rfl rfl rfl (fun _ hS => Yld.fieldAddr hS rfl 2 Try.underlying29 rfl rfl info3 (by decide)) ?_
     intro aa hS
     refine sAg hS hR rfl rfl (Yld.load1 hS rfl Try.underlying3 rfl (by first | exact Rd.blk pkQ (by rfl) | exact Rd.rec pkQ (by intro _; rfl) (by first | omega | (rw [cst_len]; omega)) rfl | exact Rd.rec0 pkQ (by intro _; rfl) (by first | omega | (rw [cst_len]; omega)) rfl | exact Rd.flatJ pkQ (by intro _; rfl) (by first | omega | (rw [cst_len]; omega)) rfl | exact Rd.flat0 pkQ (by intro _; rfl) (by first | omega | (rw [cst_len]; omega)) rfl)) (by decide) ?_; clear hS; intro aa hS
     revert aa
     refine qAg hR rfl rfl rfl (fun _ hS => Yld.gtr hS rfl rfl) ?_
     refine qB (t := 102) false rfl (by exact decide_eq_false (by omega)) ?_
     refine qA hR rfl (fun _ hS => Yld.pickF hS rfl rfl) ?_
     intro aa hS
     refine wpList_nil ?_
     try dsimp only [lay, List.set] at hR
     exact tail902 bb10 _ _ (hS.le (Le.cons rfl (Le.cons rfl (Le.cons rfl (Le.cons rfl (Le.nil _)))))) (hR.sub exQ)
    ·
     intro hg hS
     revert aa
     refine qZ ?_
     refine qZ ?_
     refine qZ ?_
     refine qZ ?_
     refine qZ ?_
     refine qAg hR rfl rfl rfl (fun _ hS => Yld.pickF hS rfl rfl) ?_
     refine qA hR rfl (fun _ hS => Yld.pickF hS rfl rfl) ?_
     refine qM hR ?_
     refine qMg hR ?_
     refine qAg hR rfl rfl rfl (fun _ hS => Yld.fieldAddr hS rfl 2 Try.underlying31 rfl rfl info29 (by decide)) ?_
     refine qAg hR rfl rfl rfl (fun _ hS => Yld.fieldAddr hS rfl 2 Try.underlying29 rfl rfl info3 (by decide)) ?_
     intro aa hS
     refine sAg hS hR rfl rfl (Yld.load1 hS rfl Try.underlying3 rfl (by first | exact Rd.blk pkQ (by rfl) | exact Rd.rec pkQ (by intro _; rfl) (by first | omega | (rw [cst_len]; omega)) rfl | exact Rd.rec0 pkQ (by intro _; rfl) (by first | omega | (rw [cst_len]; omega)) rfl | exact Rd.flatJ pkQ (by intro _; rfl) (by first | omega | (rw [cst_len]; omega)) rfl | exact Rd.flat0 pkQ (by intro _; rfl) (by first | omega | (rw [cst_len]; omega)) rfl)) (by decide) ?_; clear hS; intro aa hS
     revert aa
     refine qAg hR rfl rfl rfl (fun _ hS => Yld.gtr hS rfl rfl) ?_
     refine qB (t := 102) false rfl (by exact decide_eq_false (by omega)) ?_
     refine qA hR rfl (fun _ hS => Yld.pickF hS rfl rfl) ?_
     intro aa hS
     refine wpList_nil ?_
     try dsimp only [lay, List.set] at hR
     exact tail902 bb10 _ _ (hS.le (Le.cons rfl (Le.cons rfl (Le.cons rfl (Le.cons rfl (Le.nil _)))))) (hR.sub exQ)
   refine wp_seq_k ?_; intro K912 hK912
   refine wp_region_lit ?_
   refine sA hS hR (Yld.fieldAddr hS rfl 0 Try.underlying36 rfl rfl info5 (by decide)) (by decide) ?_; clear hS; intro aa hS
   refine sA hS hR (Yld.load1 hS rfl Try.underlying5 rfl (by first | exact Rd.blk pkQ (by rfl) | exact Rd.rec pkQ (by intro _; rfl) (by first | omega | (rw [cst_len]; omega)) rfl | exact Rd.rec0 pkQ (by intro _; rfl) (by first | omega | (rw [cst_len]; omega)) rfl | exact Rd.flatJ pkQ (by intro _; rfl) (by first | omega | (rw [cst_len]; omega)) rfl | exact Rd.flat0 pkQ (by intro _; rfl) (by first | omega | (rw [cst_len]; omega)) rfl)) (by decide) ?_; clear hS; intro aa hS
   refine sA hS hR (Yld.eql hS rfl rfl) (by decide) ?_; clear hS; intro aa hS
   refine wpList_nil ?_
   refine hK912 _ _ ?_
   refine hS.splitB (t := 76) rfl ?_ ?_ <;> clear hS
   ·
    intro hg hS
    refine condT hS rfl ?_
    refine wp_region_lit ?_
    revert aa
    refine qN hR ?_
    intro aa hS
    refine wpList_nil ?_
    try dsimp only [lay, List.set] at hR
    exact tail900 bb10 1 (by rw [← hAF, if_pos hg]; omega) _ _ (hS.le (Le.cons rfl (Le.cons rfl (Le.cons rfl (Le.cons rfl (Le.cons rfl (Le.cons rfl (Le.cons rfl (Le.cons rfl (Le.nil _)))))))))) (hR.sub exQ)
   ·
    intro hg hS
    refine condF hS rfl ?_
    refine wp_skip ?_
    try dsimp only [lay, List.set] at hR
    exact tail900 bb10 0 (by rw [← hAF, if_neg hg]; omega) _ _ (hS.le (Le.cons rfl (Le.cons rfl (Le.cons rfl (Le.cons rfl (Le.cons rfl (Le.cons rfl (Le.cons rfl (Le.cons rfl (Le.nil _)))))))))) (hR.sub exQ)
 refine wp_region_lit ?_
 revert aa
 refine qM hR ?_
 refine qA hR rfl (fun _ hS => Yld.lss hS rfl rfl) ?_
 refine qB (t := 39) false rfl (by exact decide_eq_false (by omega)) ?_
 refine qM hR ?_
 refine qMg hR ?_
 refine qAg hR rfl rfl rfl (fun _ hS => Yld.fieldAddr hS rfl 2 Try.underlying31 rfl rfl info29 (by decide)) ?_
 refine qAg hR rfl rfl rfl (fun _ hS => Yld.fieldAddr hS rfl 2 Try.underlying29 rfl rfl info3 (by decide)) ?_
 intro aa hS
 refine sAg hS hR rfl rfl (Yld.load1 hS rfl Try.underlying3 rfl (by first | exact Rd.blk pkQ (by rfl) | exact Rd.rec pkQ (by intro _; rfl) (by first | omega | (rw [cst_len]; omega)) rfl | exact Rd.rec0 pkQ (by intro _; rfl) (by first | omega | (rw [cst_len]; omega)) rfl | exact Rd.flatJ pkQ (by intro _; rfl) (by first | omega | (rw [cst_len]; omega)) rfl | exact Rd.flat0 pkQ (by intro _; rfl) (by first | omega | (rw [cst_len]; omega)) rfl)) (by decide) ?_; clear hS; intro aa hS
 revert aa
 refine qAg hR rfl rfl rfl (fun _ hS => Yld.gtr hS rfl rfl) ?_
 refine qB (t := 45) false rfl (by exact decide_eq_false (by omega)) ?_
 refine qA hR rfl (fun _ hS => Yld.pickF hS rfl rfl) ?_
 refine qM hR ?_
 refine qMg hR ?_
 refine qAg hR rfl rfl rfl (fun _ hS => Yld.eql hS rfl rfl) ?_
 refine qMg hR ?_
 intro aa hS
 refine hS.splitB (t := 50) rfl ?_ ?_ <;> clear hS
 ·
  intro hg hS
  revert aa
  refine qMg hR ?_
  refine qAg hR rfl rfl rfl (fun _ hS => Yld.fieldAddr hS rfl 2 Try.underlying31 rfl rfl info29 (by decide)) ?_
  refine qAg hR rfl rfl rfl (fun _ hS => Yld.fieldAddr hS rfl 2 Try.underlying29 rfl rfl info3 (by decide)) ?_
  intro aa hS
  refine sAg hS hR rfl rfl (Yld.load1 hS rfl Try.underlying3 rfl (by first | exact Rd.blk pkQ (by rfl) | exact Rd.rec pkQ (by intro _; rfl) (by first | omega | (rw [cst_len]; omega)) rfl | exact Rd.rec0 pkQ (by intro _; rfl) (by first | omega | (rw [cst_len]; omega)) rfl | exact Rd.flatJ pkQ (by intro _; rfl) (by first | omega | (rw [cst_len]; omega)) rfl | exact Rd.flat0 pkQ (by intro _; rfl) (by first | omega | (rw [cst_len]; omega)) rfl)) (by decide) ?_; clear hS; intro aa hS
  revert aa
  refine qAg hR rfl rfl rfl (fun _ hS => Yld.neq hS rfl rfl) ?_
  refine qB (t := 55) false rfl (by exact decide_eq_false (fun hc => hc (htk.2.2 (by omega)))) ?_
  refine qAg hR rfl rfl rfl (fun _ hS => Yld.pickT hS rfl rfl) ?_
  refine qA hR rfl (fun _ hS => Yld.pickF hS rfl rfl) ?_
  intro aa hS
  refine wpList_nil ?_
  try dsimp only [lay, List.set] at hR
  exact tail895 bb10 _ _ (hS.le (Le.cons rfl (Le.cons rfl (Le.cons rfl (Le.cons rfl (Le.cons rfl (Le.cons rfl (Le.nil _)))))))) (hR.sub exQ)
 ·
  intro hg hS
  revert aa
  refine qZ ?_
  refine qZ ?_
  refine qZ ?_
  refine qZ ?_
  refine qZ ?_
  refine qAg hR rfl rfl rfl (fun _ hS => Yld.pickF hS rfl rfl) ?_
  refine qA hR rfl (fun _ hS => Yld.pickF hS rfl rfl) ?_
  intro aa hS
  refine wpList_nil ?_
  try dsimp only [lay, List.set] at hR
  exact tail895 bb10 _ _ (hS.le (Le.cons rfl (Le.cons rfl (Le.cons rfl (Le.cons rfl (Le.cons rfl (Le.cons rfl (Le.nil _)))))))) (hR.sub exQ)
end Go.Proofs.Ytkhdejjompbklaa.Sx
