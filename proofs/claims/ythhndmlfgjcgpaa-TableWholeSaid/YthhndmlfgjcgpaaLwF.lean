/-
 
-/
import Derived.Test.YthhndmlfgjcgpaaLwD
import Derived.Test.YthhndmlfgjcgpaaPv
namespace Go.Proofs.Ythhndmlfgjcgpaa.Sx
open Go
set_option linter.unusedVariables false
set_option linter.unusedSimpArgs false

theorem neq35 (o1 o2 : Operand) (x_0 : Int) (x_1 : Int) (x_2 : Int) (x_3 : Int) (x_4 : Int) (y_0 : Int) (y_1 : Int) (y_2 : Int) (y_3 : Int) (y_4 : Int) (w : World) : (do eqGuard .neq 35 o1 o2 (.agg [.int .u8 x_0, .int .u32 x_1, .int .u32 x_2, .int .u16 x_3, .int .u16 x_4].toArray) (.agg [.int .u8 y_0, .int .u32 y_1, .int .u32 y_2, .int .u16 y_3, .int .u16 y_4].toArray); binOp .neq 35 (.agg [.int .u8 x_0, .int .u32 x_1, .int .u32 x_2, .int .u16 x_3, .int .u16 x_4].toArray) (.agg [.int .u8 y_0, .int .u32 y_1, .int .u32 y_2, .int .u16 y_3, .int .u16 y_4].toArray) : Sem Value).run Try.prog w = .ok (.bool (!decide (x_0 = y_0 ∧ x_1 = y_1 ∧ x_2 = y_2 ∧ x_3 = y_3 ∧ x_4 = y_4))) w := by
 by_cases h0 : x_0 = y_0
 ·
  skip
  by_cases h1 : x_1 = y_1
  ·
   skip
   by_cases h2 : x_2 = y_2
   ·
    skip
    by_cases h3 : x_3 = y_3
    ·
     skip
     by_cases h4 : x_4 = y_4
     ·
      simp [go_sem, h0, h1, h2, h3, h4]
     ·
      simp [go_sem, h0, h1, h2, h3, h4]
    ·
     simp [go_sem, h0, h1, h2, h3]
   ·
    simp [go_sem, h0, h1, h2]
  ·
   simp [go_sem, h0, h1]
 ·
  simp [go_sem, h0]
theorem zero3 (w : World) : (zeroValue 3).run Try.prog w = .ok (.int .i64 0) w := by kernel_rfl

set_option maxHeartbeats 8000000 in
set_option maxRecDepth 20000 in
theorem whole_ok {S b : Nat} {T : Tb} {ks : List Ky} {rk : Option Addr} {ck : Nat} {l : List HP} {w : World} (hW : WhI S T ks) (hkl : ks.length ≤ 60) (hR : Sep (tableA tt b S 3 T :: sls rk ks.length ck 35 5 (ks.flatMap eK) :: l) w) : CallR Try.prog 23 [.pointer (some ⟨b, 0, none⟩), .slice rk ks.length ck] w (fun v w' => v = .bool true ∧ Sep (tableA tt b S 3 T :: sls rk ks.length ck 35 5 (ks.flatMap eK) :: l) w') := by
 refine enter Try.func23 rfl Try.ntmps23 (Nat.le_of_ble_eq_true rfl) ?_; intro aa hS
 have hTF := hW.tf
 have hFl := hW.len
 have hal := hTF.allLen
 have hsA := hTF.sumAll
 have hcs := cntM_sum ks.reverse
 rw [List.length_reverse] at hcs
 have hcn := cntM_nd ks.reverse
 refine wp_seq_k ?_; intro K725 hK725
 refine wp_region_lit ?_
 refine sA hS hR (Yld.assign hS rfl) (by decide) ?_; clear hS; intro aa hS
 refine wpList_nil ?_
 refine hK725 _ _ ?_
 refine wp_seq_k ?_; intro K726 hK726
 refine wp_region_lit ?_
 refine sA hS hR (Yld.move hS rfl) (by decide) ?_; clear hS; intro aa hS
 refine sB (Bcall hS rfl Try.call29 (TbAll_ok (hR.pk (r := tableA _ b _ _ _) pkQ)) (by decide) ?_); clear hS; intro aa ww vv hS hp
 clear hR
 obtain ⟨ra, ca, rfl, hR⟩ := hp
 refine sA hS hR (Yld.assign hS rfl) (by decide) ?_; clear hS; intro aa hS
 refine wpList_nil ?_
 refine hK726 _ _ ?_
 refine wp_seq_k ?_; intro K727 hK727
 refine wp_seq_k ?_; intro K728 hK728
 refine wp_region_lit ?_
 refine sA hS hR (Yld.move hS rfl) (by decide) ?_; clear hS; intro aa hS
 refine sA hS hR (Yld.len hS rfl Try.underlying38) (by decide) ?_; clear hS; intro aa hS
 refine sA hS hR (Yld.move hS rfl) (by decide) ?_; clear hS; intro aa hS
 refine sA hS hR (Yld.len hS rfl Try.underlying24) (by decide) ?_; clear hS; intro aa hS
 refine sA hS hR (Yld.neq hS rfl rfl) (by decide) ?_; clear hS; intro aa hS
 replace hS := hS.sayB (t := 37) false rfl (by rw [hal, hFl]; simp)
 refine sA hS hR (Yld.move hS rfl) (by decide) ?_; clear hS; intro aa hS
 refine sAg hS hR rfl rfl (Yld.move hS rfl) (by decide) ?_; clear hS; intro aa hS
 refine sBg hS rfl rfl (Bcall hS rfl Try.call19 (TbLen_ok (hR.pk (r := tableA _ b _ _ _) pkQ)) (by decide) ?_); clear hS; intro aa ww vv hS hp
 clear hR
 obtain ⟨rfl, hR⟩ := hp
 refine sAg hS hR rfl rfl (Yld.move hS rfl) (by decide) ?_; clear hS; intro aa hS
 refine sAg hS hR rfl rfl (Yld.len hS rfl Try.underlying24) (by decide) ?_; clear hS; intro aa hS
 refine sAg hS hR rfl rfl (Yld.neq hS rfl rfl) (by decide) ?_; clear hS; intro aa hS
 replace hS := hS.sayB (t := 43) false rfl (by rw [hFl]; simp)
 refine sA hS hR (Yld.pickF hS rfl rfl) (by decide) ?_; clear hS; intro aa hS
 refine wpList_nil ?_
 refine hK728 _ _ ?_
 refine condF hS rfl ?_
 refine wp_skip ?_
 refine hK727 _ _ ?_
 refine wp_seq_k ?_; intro K729 hK729
 refine wp_region_lit ?_
 refine sB (BmakeU hS hR (by decide) ?_); clear hS hR; intro aa ww bb45 hS hR
 refine sA hS hR (Yld.assign hS rfl) (by decide) ?_; clear hS; intro aa hS
 refine sA hS hR (Yld.assign hS rfl) (by decide) ?_; clear hS; intro aa hS
 refine wpList_nil ?_
 refine hK729 _ _ ?_
 refine wp_seq_k ?_; intro K730 hK730
 refine wp_seq_k ?_; intro K731 hK731
 refine wp_region_lit ?_
 refine sA hS hR (Yld.move hS rfl) (by decide) ?_; clear hS; intro aa hS
 refine wpList_nil ?_
 refine hK731 _ _ ?_
 refine wp_block ?_
 refine loopI (X := Nat) [(0, _), (1, _), (7, _)] (fun x => [(6, .int .i64 (sumL T.F x : Int)), (46, .int .i64 (x : Int))]) (fun x => []) _ (fun x => x ≤ 3) (fun x => 3 - x) 0 (by omega) (hS.le (Le.cons rfl (Le.cons rfl (Le.nilapp (Le.cons rfl (Le.cons rfl (Le.cons rfl (Le.nil _)))))))) hR ?_
 clear hS hR; rintro m3 aa ww hI hS hR; dsimp only [List.cons_append, List.nil_append] at hI hS hR
 refine wp_seq_k ?_; intro K733 hK733
 refine wp_region_lit ?_
 refine sA hS hR (Yld.lss hS rfl rfl) (by decide) ?_; clear hS; intro aa hS
 refine wpList_nil ?_
 refine hK733 _ _ ?_
 refine wp_seq_k ?_; intro K734 hK734
 refine hS.splitB (t := 47) rfl ?_ ?_ <;> clear hS
 ·
  intro hg hS
  refine condT hS rfl ?_
  refine wp_skip ?_
  refine hK734 _ _ ?_
  refine wp_seq_k ?_; intro K735 hK735
  refine wp_block ?_
  refine wp_seq_k ?_; intro K736 hK736
  refine wp_region_lit ?_
  refine sA hS hR (Yld.move hS rfl) (by decide) ?_; clear hS; intro aa hS
  refine sA hS hR (Yld.assign hS rfl) (by decide) ?_; clear hS; intro aa hS
  refine wpList_nil ?_
  refine hK736 _ _ ?_
  refine wp_seq_k ?_; intro K737 hK737
  refine wp_region_lit ?_
  refine sA hS hR (Yld.move hS rfl) (by decide) ?_; clear hS; intro aa hS
  refine sA hS hR (Yld.move hS rfl) (by decide) ?_; clear hS; intro aa hS
  refine sB (Bcall hS rfl Try.call14 (TbIn_ok (i := (m3 : Int)) (hR.pk (r := tableA _ b _ _ _) pkQ)) (by decide) ?_); clear hS; intro aa ww vv hS hp
  clear hR
  obtain ⟨rb, cb, rfl, hR⟩ := hp
  obtain ⟨lst, hlst⟩ : ∃ y, (inF T.F (m3 : Int)).map hd2 = y := ⟨_, rfl⟩
  have hLl : lst.length = (inF T.F (m3 : Int)).length := by rw [← hlst, List.length_map]
  rw [hlst] at hS hR
  have hsl := sumL_le T.F (m3 + 1)
  have hsn : sumL T.F (m3 + 1) = sumL T.F m3 + (inF T.F (m3 : Int)).length := rfl
  refine sA hS hR (Yld.len hS rfl Try.underlying38) (by decide) ?_; clear hS; intro aa hS
  refine sA hS hR (Yld.move hS rfl) (by decide) ?_; clear hS; intro aa hS
  refine wpList_nil ?_
  refine hK737 _ _ ?_
  refine wp_block ?_
  refine loopI (X := Nat) [(0, _), (1, _), (7, _), (8, _), (46, _), (47, _), (48, _), (49, _), (50, _), (51, _), (52, _)] (fun x => [(6, .int .i64 ((sumL T.F m3 + x : Nat) : Int)), (53, .int .i64 (x : Int))]) (fun x => []) _ (fun x => x ≤ lst.length) (fun x => lst.length - x) 0 (Nat.zero_le _) (hS.le (Le.cons rfl (Le.cons rfl (Le.nilapp (Le.cons rfl (Le.cons rfl (Le.cons rfl (Le.cons rfl (Le.cons rfl (Le.cons rfl (Le.cons rfl (Le.cons rfl (Le.cons rfl (Le.cons rfl (Le.cons rfl (Le.nil _)))))))))))))))) hR ?_
  clear hS hR; rintro i aa ww hI hS hR; dsimp only [List.cons_append, List.nil_append] at hI hS hR
  refine wp_seq_k ?_; intro K739 hK739
  refine wp_region_lit ?_
  refine sA hS hR (Yld.lss hS rfl rfl) (by decide) ?_; clear hS; intro aa hS
  refine wpList_nil ?_
  refine hK739 _ _ ?_
  refine wp_seq_k ?_; intro K740 hK740
  refine hS.splitB (t := 54) rfl ?_ ?_ <;> clear hS
  ·
   intro hg hS
   have hil : i < lst.length := by omega
   obtain ⟨f, hfe0⟩ : ∃ y : Fl, (inF T.F (m3 : Int))[i]'(by omega) = y := ⟨_, rfl⟩
   have hfm := inF_mem (f := f) (F := T.F) (i := (m3 : Int)) (hfe0 ▸ List.getElem_mem _)
   have hf : f ∈ T.F := hfm
   have hfi : f.i = m3 := inF_i (hfe0 ▸ List.getElem_mem _)
   have hfe : lst[i] = hd2 f := by simp only [← hlst, List.getElem_map, hfe0]
   refine condT hS rfl ?_
   refine wp_skip ?_
   refine hK740 _ _ ?_
   refine wp_seq_k ?_; intro K741 hK741
   refine wp_block ?_
   refine wp_seq_k ?_; intro K742 hK742
   refine wp_region_lit ?_
   refine sA hS hR ((by first | exact Yld.indexL (sz := 2) (i) hS rfl rfl Try.underlying38 info29 pkQ rfl (by first | rfl | omega) (by omega) | exact Yld.indexB (sz := 2) (i) hS rfl rfl Try.underlying38 info29 rfl (by first | rfl | omega) (by omega))) (by decide) ?_; clear hS; intro aa hS
   refine sA hS hR (Yld.loadAgg hS rfl Try.underlying29 rfl info29 (by first | exact Rds.cons (Rd.blk pkQ (by rfl)) (Rds.cons (Rd.blk pkQ (by rfl)) (Rds.nil)) | exact Rds.rec pkQ (by intro _; rfl) (by omega) | exact Rds.flat1 pkQ (by intro _; rfl) (by omega)) (by rfl)) (by decide) ?_; clear hS; intro aa hS
   replace hS := hS.say (t := 56) (vH f.s f.u) rfl (by rw [hfe]; rfl)
   refine sB (Balloc hS hR info29 (by rfl) (by rfl) (by decide) ?_); clear hS hR; intro aa ww bb10 hS hR
   refine sB (Bstore hS hR rfl rfl (by rfl) info29 (by rfl) pkQ (by rfl) (Nat.le_of_ble_eq_true rfl) ?_); clear hR; intro ww hR
   refine wpList_nil ?_
   refine hK742 _ _ ?_
   refine wp_seq_k ?_; intro K743 hK743
   refine wp_seq_k ?_; intro K744 hK744
   refine wp_region_lit ?_
   refine sA hS hR (Yld.move hS rfl) (by decide) ?_; clear hS; intro aa hS
   refine sA hS hR (Yld.loadAgg hS rfl Try.underlying29 rfl info29 (by first | exact Rds.cons (Rd.blk pkQ (by rfl)) (Rds.cons (Rd.blk pkQ (by rfl)) (Rds.nil)) | exact Rds.rec pkQ (by intro _; rfl) (by omega) | exact Rds.flat1 pkQ (by intro _; rfl) (by omega)) (by rfl)) (by decide) ?_; clear hS; intro aa hS
   refine sB (Bcall hS rfl Try.call13 (TbList_ok hf (hR.pk (r := tableA _ b _ _ _) pkQ)) (by decide) ?_); clear hS; intro aa ww vv hS hp
   clear hR
   obtain ⟨rfl, hR⟩ := hp
   rw [hfi] at hS
   refine sA hS hR (Yld.move hS rfl) (by decide) ?_; clear hS; intro aa hS
   refine sA hS hR (Yld.extract hS rfl rfl) (by decide) ?_; clear hS; intro aa hS
   refine sA hS hR (Yld.extract hS rfl rfl) (by decide) ?_; clear hS; intro aa hS
   refine sA hS hR (Yld.assign hS rfl) (by decide) ?_; clear hS; intro aa hS
   refine sA hS hR (Yld.assign hS rfl) (by decide) ?_; clear hS; intro aa hS
   refine wpList_nil ?_
   refine hK744 _ _ ?_
   refine wp_seq_k ?_; intro K745 hK745
   refine wp_region_lit ?_
   refine sA hS hR (Yld.move hS rfl) (by decide) ?_; clear hS; intro aa hS
   replace hS := hS.sayB (t := 63) true rfl (by rfl)
   refine sA hS hR (Yld.not hS rfl) (by decide) ?_; clear hS; intro aa hS
   refine sA hS hR (Yld.move hS rfl) (by decide) ?_; clear hS; intro aa hS
   refine sAg hS hR rfl rfl (Yld.move hS rfl) (by decide) ?_; clear hS; intro aa hS
   refine sAg hS hR rfl rfl (Yld.move hS rfl) (by decide) ?_; clear hS; intro aa hS
   refine sAg hS hR rfl rfl (Yld.neq hS rfl rfl) (by decide) ?_; clear hS; intro aa hS
   replace hS := hS.sayB (t := 68) false rfl (by simp)
   refine sA hS hR (Yld.pickF hS rfl rfl) (by decide) ?_; clear hS; intro aa hS
   refine wpList_nil ?_
   refine hK745 _ _ ?_
   refine condF hS rfl ?_
   refine wp_skip ?_
   refine hK743 _ _ ?_
   refine wp_region_lit ?_
   refine sA hS hR (Yld.move hS rfl) (by decide) ?_; clear hS; intro aa hS
   refine sA hS hR ((by first | exact Yld.add64 hS rfl rfl (by omega) | exact Yld.add hS rfl rfl)) (by decide) ?_; clear hS; intro aa hS
   refine sA hS hR (Yld.assign hS rfl) (by decide) ?_; clear hS; intro aa hS
   refine wpList_nil ?_
   refine hK741 _ _ ?_
   refine wp_region_lit ?_
   refine sA hS hR ((by first | exact Yld.add64 hS rfl rfl (by omega) | exact Yld.add hS rfl rfl)) (by decide) ?_; clear hS; intro aa hS
   refine sA hS hR (Yld.move hS rfl) (by decide) ?_; clear hS; intro aa hS
   refine wpList_nil ?_
   
   refine ⟨i + 1, ?_, ?_, hS.le (Le.cons rfl (Le.cons rfl (Le.nilapp (Le.cons rfl (Le.cons rfl (Le.cons rfl (Le.cons rfl (Le.cons rfl (Le.cons rfl (Le.cons rfl (Le.cons rfl (Le.cons rfl (Le.cons rfl (Le.cons rfl (Le.nil _))))))))))))))), hR.sub (Ex.nilapp exQ)⟩
   ·
    omega
   ·
    omega
  ·
   intro hg hS
   obtain rfl : i = lst.length := by omega
   refine condF hS rfl ?_
   refine wp_exit ?_
   refine hK735 _ _ ?_
   refine wp_region_lit ?_
   refine sA hS hR ((by first | exact Yld.add64 hS rfl rfl (by omega) | exact Yld.add hS rfl rfl)) (by decide) ?_; clear hS; intro aa hS
   refine sA hS hR (Yld.move hS rfl) (by decide) ?_; clear hS; intro aa hS
   refine wpList_nil ?_
   replace hS := hS.say (t := 6) (.int .i64 (sumL T.F (m3 + 1) : Int)) rfl (by rw [hsn, ← hLl])
   refine ⟨m3 + 1, ?_, ?_, hS.le (Le.cons rfl (Le.cons rfl (Le.nilapp (Le.cons rfl (Le.cons rfl (Le.cons rfl (Le.nil _))))))), hR.sub (Ex.nilapp exQ)⟩
   ·
    omega
   ·
    omega
 ·
  intro hg hS
  obtain rfl : m3 = 3 := by omega
  refine condF hS rfl ?_
  refine wp_exit ?_
  refine hK730 _ _ ?_
  refine wp_seq_k ?_; intro K746 hK746
  refine wp_seq_k ?_; intro K747 hK747
  refine wp_region_lit ?_
  refine sA hS hR (Yld.move hS rfl) (by decide) ?_; clear hS; intro aa hS
  refine sA hS hR (Yld.len hS rfl Try.underlying24) (by decide) ?_; clear hS; intro aa hS
  refine sA hS hR (Yld.move hS rfl) (by decide) ?_; clear hS; intro aa hS
  refine wpList_nil ?_
  refine hK747 _ _ ?_
  refine wp_block ?_
  replace hR := hR.pk (r := mapU bb45 []) pkQ
  refine loopI (X := Nat) [(0, _), (1, _), (6, _), (7, _), (74, _), (75, _)] (fun x => [(76, .int .i64 (x : Int))]) (fun x => [mapU bb45 (cntM (ks.take x).reverse)]) _ (fun x => x ≤ ks.length) (fun x => ks.length - x) 0 (Nat.zero_le _) (hS.le (Le.cons rfl (Le.nilapp (Le.cons rfl (Le.cons rfl (Le.cons rfl (Le.cons rfl (Le.cons rfl (Le.cons rfl (Le.nil _)))))))))) hR ?_
  clear hS hR; rintro i aa ww hI hS hR; dsimp only [List.cons_append, List.nil_append] at hI hS hR
  refine wp_seq_k ?_; intro K749 hK749
  refine wp_region_lit ?_
  refine sA hS hR (Yld.lss hS rfl rfl) (by decide) ?_; clear hS; intro aa hS
  refine wpList_nil ?_
  refine hK749 _ _ ?_
  refine wp_seq_k ?_; intro K750 hK750
  refine hS.splitB (t := 77) rfl ?_ ?_ <;> clear hS
  ·
   intro hg hS
   have hil : i < ks.length := by omega
   obtain ⟨f, hf, hfk⟩ := hW.flow (List.getElem_mem hil)
   have hke : ks[i] = f.k := hfk.symm
   have hfw := hTF.wf f hf
   have hfn1 : fndK T.F f.k = some f := (fndK_mem hTF).2 ⟨hf, .inl rfl⟩
   have hfn2 : fndK T.F (trn f.k) = some f := (fndK_mem hTF).2 ⟨hf, .inr rfl⟩
   have hvl := cntM_val (ks.take i).reverse f.k.2.1
   have hcl := cntS_le (ks.take i).reverse f.k.2.1
   rw [List.length_reverse, List.length_take] at hcl
   have hnx : cntM (ks.take (i + 1)).reverse = setU f.k.2.1 (valU (cntM (ks.take i).reverse) f.k.2.1 + 1) (cntM (ks.take i).reverse) := by rw [List.take_succ_eq_append_getElem hil, List.reverse_append, hke]; rfl
   refine condT hS rfl ?_
   refine wp_skip ?_
   refine hK750 _ _ ?_
   refine wp_seq_k ?_; intro K751 hK751
   refine wp_block ?_
   refine wp_seq_k ?_; intro K752 hK752
   refine wp_region_lit ?_
   refine sA hS hR ((by first | exact Yld.indexL (sz := 5) (i) hS rfl rfl Try.underlying24 info35 pkQ rfl (by first | rfl | omega) (by omega) | exact Yld.indexB (sz := 5) (i) hS rfl rfl Try.underlying24 info35 rfl (by first | rfl | omega) (by omega))) (by decide) ?_; clear hS; intro aa hS
   refine sA hS hR (Yld.loadAgg hS rfl Try.underlying35 rfl info35 (by first | exact Rds.cons (Rd.blk pkQ (by rfl)) (Rds.cons (Rd.blk pkQ (by rfl)) (Rds.cons (Rd.blk pkQ (by rfl)) (Rds.cons (Rd.blk pkQ (by rfl)) (Rds.cons (Rd.blk pkQ (by rfl)) (Rds.nil))))) | exact Rds.rec pkQ (by intro _; rfl) (by omega) | exact Rds.flat1 pkQ (by intro _; rfl) (by omega)) (by rfl)) (by decide) ?_; clear hS; intro aa hS
   replace hS := hS.say (t := 79) (vK f.k) rfl (by rw [hke])
   refine sB (Balloc hS hR info35 (by rfl) (by rfl) (by decide) ?_); clear hS hR; intro aa ww bb14 hS hR
   refine sB (Bstore hS hR rfl rfl (by rfl) info35 (by rfl) pkQ (by rfl) (Nat.le_of_ble_eq_true rfl) ?_); clear hR; intro ww hR
   refine wpList_nil ?_
   refine hK752 _ _ ?_
   refine wp_seq_k ?_; intro K753 hK753
   refine wp_region_lit ?_
   refine sA hS hR (Yld.move hS rfl) (by decide) ?_; clear hS; intro aa hS
   refine sA hS hR (Yld.fieldAddr hS rfl 1 Try.underlying35 rfl rfl info32 (by decide)) (by decide) ?_; clear hS; intro aa hS
   refine sA hS hR (Yld.load1 hS rfl Try.underlying32 rfl (by first | exact Rd.blk pkQ (by rfl) | exact Rd.rec pkQ (by intro _; rfl) (by omega) rfl | exact Rd.rec0 pkQ (by intro _; rfl) (by omega) rfl | exact Rd.flatJ pkQ (by intro _; rfl) (by omega) rfl | exact Rd.flat0 pkQ (by intro _; rfl) (by omega) rfl)) (by decide) ?_; clear hS; intro aa hS
   refine sA hS hR (Yld.lookupU hS Try.underlying32 rfl rfl Try.underlying106 zero3 pkQ) (by decide) ?_; clear hS; intro aa hS
   refine sA hS hR ((by first | exact Yld.add64 hS rfl rfl (by omega) | exact Yld.add hS rfl rfl)) (by decide) ?_; clear hS; intro aa hS
   refine sB (BupdateU hS hR Try.underlying32 rfl rfl rfl Try.underlying106 pkQ ?_); clear hR; intro ww hR
   rw [← hnx] at hR
   refine wpList_nil ?_
   refine hK753 _ _ ?_
   refine wp_seq_k ?_; intro K754 hK754
   refine wp_region_lit ?_
   refine sA hS hR (Yld.move hS rfl) (by decide) ?_; clear hS; intro aa hS
   refine sA hS hR (Yld.loadAgg hS rfl Try.underlying35 rfl info35 (by first | exact Rds.cons (Rd.blk pkQ (by rfl)) (Rds.cons (Rd.blk pkQ (by rfl)) (Rds.cons (Rd.blk pkQ (by rfl)) (Rds.cons (Rd.blk pkQ (by rfl)) (Rds.cons (Rd.blk pkQ (by rfl)) (Rds.nil))))) | exact Rds.rec pkQ (by intro _; rfl) (by omega) | exact Rds.flat1 pkQ (by intro _; rfl) (by omega)) (by rfl)) (by decide) ?_; clear hS; intro aa hS
   refine sB (Bcall hS rfl Try.call12 (Find_ok (k := f.k) hfw (hR.pk (r := tableA _ b _ _ _) pkQ)) (by decide) ?_); clear hS; intro aa ww vv hS hp
   clear hR
   obtain ⟨rfl, hR⟩ := hp
   rw [fndV_some hfn1, decide_eq_false (fun h => h rfl)] at hS
   refine sA hS hR (Yld.move hS rfl) (by decide) ?_; clear hS; intro aa hS
   refine sA hS hR (Yld.extract hS rfl rfl) (by decide) ?_; clear hS; intro aa hS
   refine sA hS hR (Yld.extract hS rfl rfl) (by decide) ?_; clear hS; intro aa hS
   refine sA hS hR (Yld.extract hS rfl rfl) (by decide) ?_; clear hS; intro aa hS
   refine sB (Balloc hS hR info29 (by rfl) (by rfl) (by decide) ?_); clear hS hR; intro aa ww bb15 hS hR
   refine sB (Bstore hS hR rfl rfl (by rfl) info29 (by rfl) pkQ (by rfl) (Nat.le_of_ble_eq_true rfl) ?_); clear hR; intro ww hR
   refine sA hS hR (Yld.assign hS rfl) (by decide) ?_; clear hS; intro aa hS
   refine sA hS hR (Yld.assign hS rfl) (by decide) ?_; clear hS; intro aa hS
   refine wpList_nil ?_
   refine hK754 _ _ ?_
   refine wp_seq_k ?_; intro K755 hK755
   refine wp_region_lit ?_
   refine sA hS hR (Yld.move hS rfl) (by decide) ?_; clear hS; intro aa hS
   refine sA hS hR (Yld.loadAgg hS rfl Try.underlying35 rfl info35 (by first | exact Rds.cons (Rd.blk pkQ (by rfl)) (Rds.cons (Rd.blk pkQ (by rfl)) (Rds.cons (Rd.blk pkQ (by rfl)) (Rds.cons (Rd.blk pkQ (by rfl)) (Rds.cons (Rd.blk pkQ (by rfl)) (Rds.nil))))) | exact Rds.rec pkQ (by intro _; rfl) (by omega) | exact Rds.flat1 pkQ (by intro _; rfl) (by omega)) (by rfl)) (by decide) ?_; clear hS; intro aa hS
   refine sB (Bcall hS rfl Try.call16 (Turn_ok (k := f.k) hR) (by decide) ?_); clear hS; intro aa ww vv hS hp
   clear hR
   obtain ⟨rfl, hR⟩ := hp
   refine sB (Bcall hS rfl Try.call12 (Find_ok (k := trn f.k) (trn_wf hfw) (hR.pk (r := tableA _ b _ _ _) pkQ)) (by decide) ?_); clear hS; intro aa ww vv hS hp
   clear hR
   obtain ⟨rfl, hR⟩ := hp
   rw [fndV_some hfn2] at hS
   refine sA hS hR (Yld.move hS rfl) (by decide) ?_; clear hS; intro aa hS
   refine sA hS hR (Yld.extract hS rfl rfl) (by decide) ?_; clear hS; intro aa hS
   refine sA hS hR (Yld.extract hS rfl rfl) (by decide) ?_; clear hS; intro aa hS
   refine sA hS hR (Yld.extract hS rfl rfl) (by decide) ?_; clear hS; intro aa hS
   refine sB (Balloc hS hR info29 (by rfl) (by rfl) (by decide) ?_); clear hS hR; intro aa ww bb18 hS hR
   refine sB (Bstore hS hR rfl rfl (by rfl) info29 (by rfl) pkQ (by rfl) (Nat.le_of_ble_eq_true rfl) ?_); clear hR; intro ww hR
   refine sA hS hR (Yld.assign hS rfl) (by decide) ?_; clear hS; intro aa hS
   refine sA hS hR (Yld.assign hS rfl) (by decide) ?_; clear hS; intro aa hS
   refine wpList_nil ?_
   refine hK755 _ _ ?_
   refine wp_seq_k ?_; intro K756 hK756
   refine wp_region_lit ?_
   refine sA hS hR (Yld.move hS rfl) (by decide) ?_; clear hS; intro aa hS
   refine sA hS hR (Yld.loadAgg hS rfl Try.underlying29 rfl info29 (by first | exact Rds.cons (Rd.blk pkQ (by rfl)) (Rds.cons (Rd.blk pkQ (by rfl)) (Rds.nil)) | exact Rds.rec pkQ (by intro _; rfl) (by omega) | exact Rds.flat1 pkQ (by intro _; rfl) (by omega)) (by rfl)) (by decide) ?_; clear hS; intro aa hS
   refine sB (Bcall hS rfl Try.call22 (TbKey_ok hf (hR.pk (r := tableA _ b _ _ _) pkQ)) (by decide) ?_); clear hS; intro aa ww vv hS hp
   clear hR
   obtain ⟨rfl, hR⟩ := hp
   refine sA hS hR (Yld.move hS rfl) (by decide) ?_; clear hS; intro aa hS
   refine sA hS hR (Yld.extract hS rfl rfl) (by decide) ?_; clear hS; intro aa hS
   refine sA hS hR (Yld.extract hS rfl rfl) (by decide) ?_; clear hS; intro aa hS
   refine sB (Balloc hS hR info35 (by rfl) (by rfl) (by decide) ?_); clear hS hR; intro aa ww bb21 hS hR
   refine sB (Bstore hS hR rfl rfl (by rfl) info35 (by rfl) pkQ (by rfl) (Nat.le_of_ble_eq_true rfl) ?_); clear hR; intro ww hR
   refine sA hS hR (Yld.assign hS rfl) (by decide) ?_; clear hS; intro aa hS
   refine wpList_nil ?_
   refine hK756 _ _ ?_
   refine wp_seq_k ?_; intro K757 hK757
   refine drawn (by kernel_rfl) hR Ex.refl ?_; clear hR; intro ww hR hR0
   refine dA 0 rfl (by kernel_rfl) (by kernel_rfl) (by kernel_rfl) (fun _ _ _ h => h) hS hR0 (Yld.move hS rfl) (by decide) ?_; clear hS; intro aa hS
   replace hS := hS.sayB (t := 106) true rfl (by rfl)
   refine dA 1 rfl (by kernel_rfl) (by kernel_rfl) (by kernel_rfl) (fun _ _ _ h => h) hS hR0 (Yld.not hS rfl) (by decide) ?_; clear hS; intro aa hS
   refine dA 2 rfl (by kernel_rfl) (by kernel_rfl) (by kernel_rfl) (fun _ _ _ h => h) hS hR0 (Yld.move hS rfl) (by decide) ?_; clear hS; intro aa hS
   refine dAg 3 rfl (by kernel_rfl) (by kernel_rfl) (by kernel_rfl) (fun _ _ _ h => h) hS rfl rfl hR0 (Yld.move hS rfl) (by decide) ?_; clear hS; intro aa hS
   replace hS := hS.sayB (t := 109) true rfl (by rfl)
   refine dAg 4 rfl (by kernel_rfl) (by kernel_rfl) (by kernel_rfl) (fun _ _ _ h => h) hS rfl rfl hR0 (Yld.not hS rfl) (by decide) ?_; clear hS; intro aa hS
   refine dA 5 rfl (by kernel_rfl) (by kernel_rfl) (by kernel_rfl) (fun _ _ _ h => h) hS hR0 (Yld.pickF hS rfl rfl) (by decide) ?_; clear hS; intro aa hS
   refine dA 6 rfl (by kernel_rfl) (by kernel_rfl) (by kernel_rfl) (fun _ _ _ h => h) hS hR0 (Yld.move hS rfl) (by decide) ?_; clear hS; intro aa hS
   refine dAg 7 rfl (by kernel_rfl) (by kernel_rfl) (by kernel_rfl) (fun _ _ _ h => h) hS rfl rfl hR0 (Yld.move hS rfl) (by decide) ?_; clear hS; intro aa hS
   replace hS := hS.sayB (t := 113) false rfl (by rfl)
   refine dA 8 rfl (by kernel_rfl) (by kernel_rfl) (by kernel_rfl) (fun _ _ _ h => h) hS hR0 (Yld.pickF hS rfl rfl) (by decide) ?_; clear hS; intro aa hS
   refine dA 9 rfl (by kernel_rfl) (by kernel_rfl) (by kernel_rfl) (fun _ _ _ h => h) hS hR0 (Yld.move hS rfl) (by decide) ?_; clear hS; intro aa hS
   refine dAg 10 rfl (by kernel_rfl) (by kernel_rfl) (by kernel_rfl) (fun _ _ _ h => h) hS rfl rfl hR0 (Yld.move hS rfl) (by decide) ?_; clear hS; intro aa hS
   refine dAg 11 rfl (by kernel_rfl) (by kernel_rfl) (by kernel_rfl) (fun _ _ _ h => h) hS rfl rfl hR0 (Yld.loadAgg hS rfl Try.underlying35 rfl info35 (by first | exact Rds.cons (Rd.blk pkQ (by rfl)) (Rds.cons (Rd.blk pkQ (by rfl)) (Rds.cons (Rd.blk pkQ (by rfl)) (Rds.cons (Rd.blk pkQ (by rfl)) (Rds.cons (Rd.blk pkQ (by rfl)) (Rds.nil))))) | exact Rds.rec pkQ (by intro _; rfl) (by omega) | exact Rds.flat1 pkQ (by intro _; rfl) (by omega)) (by rfl)) (by decide) ?_; clear hS; intro aa hS
   refine dAg 13 rfl (by kernel_rfl) (by kernel_rfl) (by kernel_rfl) (fun _ _ _ h => h) hS rfl rfl hR0 (Yld.loadAgg hS rfl Try.underlying35 rfl info35 (by first | exact Rds.cons (Rd.blk pkQ (by rfl)) (Rds.cons (Rd.blk pkQ (by rfl)) (Rds.cons (Rd.blk pkQ (by rfl)) (Rds.cons (Rd.blk pkQ (by rfl)) (Rds.cons (Rd.blk pkQ (by rfl)) (Rds.nil))))) | exact Rds.rec pkQ (by intro _; rfl) (by omega) | exact Rds.flat1 pkQ (by intro _; rfl) (by omega)) (by rfl)) (by decide) ?_; clear hS; intro aa hS
   refine dOne (i := 12) (by kernel_rfl) ?_
   refine dopg rfl hS rfl rfl (Bcall hS rfl Try.call16 (Turn_ok (k := f.k) hR) (by decide) ?_); clear hS; intro aa ww vv hS hp
   clear hR hR0
   obtain ⟨rfl, hR⟩ := hp
   refine dnext (hR.sub exQ) ?_; intro hR0
   refine dAg 14 rfl (by kernel_rfl) (by kernel_rfl) (by kernel_rfl) (fun _ _ _ h => h) hS rfl rfl hR0 (Yld.binRun hS rfl rfl (neq35 _ _ _ _ _ _ _ _ _ _ _ _)) (by decide) ?_; clear hS; intro aa hS
   refine dAg 15 rfl (by kernel_rfl) (by kernel_rfl) (by kernel_rfl) (fun _ _ _ h => h) hS rfl rfl hR0 (Yld.neqB hS rfl rfl Try.underlying4) (by decide) ?_; clear hS; intro aa hS
   replace hS := hS.sayB (t := 121) false rfl (by rw [turn_eq2]; rfl)
   refine dA 16 rfl (by kernel_rfl) (by kernel_rfl) (by kernel_rfl) (fun _ _ _ h => h) hS hR0 (Yld.pickF hS rfl rfl) (by decide) ?_; clear hS; intro aa hS
   refine dA 17 rfl (by kernel_rfl) (by kernel_rfl) (by kernel_rfl) (fun _ _ _ h => h) hS hR0 (Yld.move hS rfl) (by decide) ?_; clear hS; intro aa hS
   refine dAg 18 rfl (by kernel_rfl) (by kernel_rfl) (by kernel_rfl) (fun _ _ _ h => h) hS rfl rfl hR0 (Yld.loadAgg hS rfl Try.underlying29 rfl info29 (by first | exact Rds.cons (Rd.blk pkQ (by rfl)) (Rds.cons (Rd.blk pkQ (by rfl)) (Rds.nil)) | exact Rds.rec pkQ (by intro _; rfl) (by omega) | exact Rds.flat1 pkQ (by intro _; rfl) (by omega)) (by rfl)) (by decide) ?_; clear hS; intro aa hS
   refine dAg 19 rfl (by kernel_rfl) (by kernel_rfl) (by kernel_rfl) (fun _ _ _ h => h) hS rfl rfl hR0 (Yld.loadAgg hS rfl Try.underlying29 rfl info29 (by first | exact Rds.cons (Rd.blk pkQ (by rfl)) (Rds.cons (Rd.blk pkQ (by rfl)) (Rds.nil)) | exact Rds.rec pkQ (by intro _; rfl) (by omega) | exact Rds.flat1 pkQ (by intro _; rfl) (by omega)) (by rfl)) (by decide) ?_; clear hS; intro aa hS
   refine dAg 20 rfl (by kernel_rfl) (by kernel_rfl) (by kernel_rfl) (fun _ _ _ h => h) hS rfl rfl hR0 (Yld.binRun hS rfl rfl (neq29 _ _ _ _ _ _)) (by decide) ?_; clear hS; intro aa hS
   replace hS := hS.sayB (t := 126) false rfl (by simp)
   refine dA 21 rfl (by kernel_rfl) (by kernel_rfl) (by kernel_rfl) (fun _ _ _ h => h) hS hR0 (Yld.pickF hS rfl rfl) (by decide) ?_; clear hS; intro aa hS
   refine dA 22 rfl (by kernel_rfl) (by kernel_rfl) (by kernel_rfl) (fun _ _ _ h => h) hS hR0 (Yld.move hS rfl) (by decide) ?_; clear hS; intro aa hS
   refine dAg 23 rfl (by kernel_rfl) (by kernel_rfl) (by kernel_rfl) (fun _ _ _ h => h) hS rfl rfl hR0 (Yld.move hS rfl) (by decide) ?_; clear hS; intro aa hS
   replace hS := hS.sayB (t := 129) true rfl (by rfl)
   refine dAg 24 rfl (by kernel_rfl) (by kernel_rfl) (by kernel_rfl) (fun _ _ _ h => h) hS rfl rfl hR0 (Yld.not hS rfl) (by decide) ?_; clear hS; intro aa hS
   refine dA 25 rfl (by kernel_rfl) (by kernel_rfl) (by kernel_rfl) (fun _ _ _ h => h) hS hR0 (Yld.pickF hS rfl rfl) (by decide) ?_; clear hS; intro aa hS
   refine dA 26 rfl (by kernel_rfl) (by kernel_rfl) (by kernel_rfl) (fun _ _ _ h => h) hS hR0 (Yld.move hS rfl) (by decide) ?_; clear hS; intro aa hS
   refine dAg 27 rfl (by kernel_rfl) (by kernel_rfl) (by kernel_rfl) (fun _ _ _ h => h) hS rfl rfl hR0 (Yld.loadAgg hS rfl Try.underlying35 rfl info35 (by first | exact Rds.cons (Rd.blk pkQ (by rfl)) (Rds.cons (Rd.blk pkQ (by rfl)) (Rds.cons (Rd.blk pkQ (by rfl)) (Rds.cons (Rd.blk pkQ (by rfl)) (Rds.cons (Rd.blk pkQ (by rfl)) (Rds.nil))))) | exact Rds.rec pkQ (by intro _; rfl) (by omega) | exact Rds.flat1 pkQ (by intro _; rfl) (by omega)) (by rfl)) (by decide) ?_; clear hS; intro aa hS
   refine dAg 28 rfl (by kernel_rfl) (by kernel_rfl) (by kernel_rfl) (fun _ _ _ h => h) hS rfl rfl hR0 (Yld.loadAgg hS rfl Try.underlying35 rfl info35 (by first | exact Rds.cons (Rd.blk pkQ (by rfl)) (Rds.cons (Rd.blk pkQ (by rfl)) (Rds.cons (Rd.blk pkQ (by rfl)) (Rds.cons (Rd.blk pkQ (by rfl)) (Rds.cons (Rd.blk pkQ (by rfl)) (Rds.nil))))) | exact Rds.rec pkQ (by intro _; rfl) (by omega) | exact Rds.flat1 pkQ (by intro _; rfl) (by omega)) (by rfl)) (by decide) ?_; clear hS; intro aa hS
   refine dAg 29 rfl (by kernel_rfl) (by kernel_rfl) (by kernel_rfl) (fun _ _ _ h => h) hS rfl rfl hR0 (Yld.binRun hS rfl rfl (neq35 _ _ _ _ _ _ _ _ _ _ _ _)) (by decide) ?_; clear hS; intro aa hS
   replace hS := hS.sayB (t := 135) false rfl (by simp)
   refine dA 30 rfl (by kernel_rfl) (by kernel_rfl) (by kernel_rfl) (fun _ _ _ h => h) hS hR0 (Yld.pickF hS rfl rfl) (by decide) ?_; clear hS; intro aa hS
   refine wpAnyH_done (by kernel_rfl) ?_ _; clear hR0
   refine hK757 _ _ ?_
   refine condF hS rfl ?_
   refine wp_skip ?_
   refine hK751 _ _ ?_
   refine wp_region_lit ?_
   refine sA hS hR ((by first | exact Yld.add64 hS rfl rfl (by omega) | exact Yld.add hS rfl rfl)) (by decide) ?_; clear hS; intro aa hS
   refine sA hS hR (Yld.move hS rfl) (by decide) ?_; clear hS; intro aa hS
   refine wpList_nil ?_
   
   refine ⟨i + 1, ?_, ?_, hS.le (Le.cons rfl (Le.nilapp (Le.cons rfl (Le.cons rfl (Le.cons rfl (Le.cons rfl (Le.cons rfl (Le.cons rfl (Le.nil _))))))))), hR.sub (Ex.take pkQ (Ex.nilapp exQ))⟩
   ·
    omega
   ·
    omega
  ·
   intro hg hS
   obtain rfl : i = ks.length := by omega
   rw [List.take_length] at hR
   refine condF hS rfl ?_
   refine wp_exit ?_
   refine hK746 _ _ ?_
   refine wp_seq_k ?_; intro K758 hK758
   refine wp_region_lit ?_
   refine sA hS hR (Yld.assign hS rfl) (by decide) ?_; clear hS; intro aa hS
   refine wpList_nil ?_
   refine hK758 _ _ ?_
   refine wp_seq_k ?_; intro K759 hK759
   refine wp_seq_k ?_; intro K760 hK760
   refine wp_region_lit ?_
   refine sA hS hR (Yld.move hS rfl) (by decide) ?_; clear hS; intro aa hS
   refine sB (BrangeU hS hR rfl Try.underlying106 pkQ (by decide) ?_); clear hS hR; intro aa ww rr139 hS hR
   refine wpList_nil ?_
   refine hK760 _ _ ?_
   refine wp_block ?_
   replace hS := hS.say (t := 23) (.int .i64 (sumD (cntM ks.reverse) [])) rfl (by rw [sumD_nil])
   replace hR := hR.pk (r := rngU bb45 rr139 (cntM ks.reverse) [] none) pkQ
   refine loopI (X := List Int × Option (Int × Int)) [(0, _), (1, _), (6, _), (139, _)] (fun x => [(23, .int .i64 (sumD (cntM ks.reverse) x.1))]) (fun x => [rngU bb45 rr139 (cntM ks.reverse) x.1 x.2]) _ (fun x => True) (fun x => (cntM ks.reverse).length - x.1.length) ([], none) trivial (hS.le (Le.cons rfl (Le.nilapp (Le.cons rfl (Le.cons rfl (Le.cons rfl (Le.cons rfl (Le.nil _)))))))) hR ?_
   clear hS hR; rintro ⟨D0, la⟩ aa ww hI hS hR; dsimp only [List.cons_append, List.nil_append] at hI hS hR
   refine wp_seq_k ?_; intro K762 hK762
   refine wp_region_lit ?_
   refine sB (BnextU hS hR rfl pkQ (by decide) ?_ ?_) <;> clear hS hR
   ·
    intro aa ww hall hS hR
    have hsd := sumD_all hall
    rw [hcs] at hsd
    refine sA hS hR (Yld.extract hS rfl rfl) (by decide) ?_; clear hS; intro aa hS
    replace hS := hS.sayB (t := 141) false rfl (by rfl)
    refine wpList_nil ?_
    refine hK762 _ _ ?_
    refine wp_seq_k ?_; intro K763 hK763
    refine condF hS rfl ?_
    refine wp_exit ?_
    refine hK759 _ _ ?_
    refine wp_seq_k ?_; intro K764 hK764
    refine wp_region_lit ?_
    refine sA hS hR (Yld.move hS rfl) (by decide) ?_; clear hS; intro aa hS
    refine sA hS hR (Yld.move hS rfl) (by decide) ?_; clear hS; intro aa hS
    refine sA hS hR (Yld.len hS rfl Try.underlying24) (by decide) ?_; clear hS; intro aa hS
    refine sA hS hR (Yld.eql hS rfl rfl) (by decide) ?_; clear hS; intro aa hS
    replace hS := hS.sayB (t := 187) true rfl (by exact decide_eq_true (by omega))
    refine sA hS hR (Yld.move hS rfl) (by decide) ?_; clear hS; intro aa hS
    refine sAg hS hR rfl rfl (Yld.move hS rfl) (by decide) ?_; clear hS; intro aa hS
    refine sAg hS hR rfl rfl (Yld.move hS rfl) (by decide) ?_; clear hS; intro aa hS
    refine sAg hS hR rfl rfl (Yld.len hS rfl Try.underlying24) (by decide) ?_; clear hS; intro aa hS
    refine sAg hS hR rfl rfl (Yld.eql hS rfl rfl) (by decide) ?_; clear hS; intro aa hS
    replace hS := hS.sayB (t := 192) true rfl (by exact decide_eq_true (by omega))
    refine sA hS hR (Yld.pickT hS rfl rfl) (by decide) ?_; clear hS; intro aa hS
    refine sA hS hR (Yld.assign hS rfl) (by decide) ?_; clear hS; intro aa hS
    refine wpList_nil ?_
    refine hK764 _ _ ?_
    refine wp_ret ?_
    repeat (first | with_reducible refine thenR ?_ | with_reducible refine blockR ?_ | with_reducible refine scopeR ?_)
    refine ret1 (fn := Try.f23) (e := .ret) (.inl rfl) Try.results23 hS hR ⟨_, (.tmp rfl), ?_⟩
    exact ⟨rfl, (hR.sub exQ)⟩
   ·
    intro aa ww kn vn hkm hkD hDD hS hR
    have hvm := valU_mem hcn hkm
    rw [cntM_val] at hvm
    have hdl := done_lt hkm hkD hDD
    have hsa := sumD_add hcn hkm hkD
    obtain ⟨ky, hky, hks⟩ := cntM_key (List.mem_map.2 ⟨_, hkm, rfl⟩)
    obtain ⟨fy, hfy, hfyk⟩ := hW.flow (List.mem_reverse.1 hky)
    have hkb : 0 ≤ kn ∧ kn ≤ 4294967295 := by have := (hTF.wf fy hfy).s; rw [hfyk, hks] at this; exact this
    have hvn : cntS ks kn = vn.toNat := by rw [cntS_rev] at hvm; omega
    have hvb : 0 ≤ vn ∧ vn ≤ 60 := by rw [cntS_rev] at hvm; have := cntS_le ks kn; omega
    have hsd0 := sumD_le hcn hDD.1 (M := cntM ks.reverse) (D := D0) cntM_pos
    rw [hcs] at hsd0
    refine sA hS hR (Yld.extract hS rfl rfl) (by decide) ?_; clear hS; intro aa hS
    replace hS := hS.sayB (t := 141) true rfl (by rfl)
    refine wpList_nil ?_
    refine hK762 _ _ ?_
    refine wp_seq_k ?_; intro K765 hK765
    refine condT hS rfl ?_
    refine wp_skip ?_
    refine hK765 _ _ ?_
    refine wp_block ?_
    refine wp_seq_k ?_; intro K766 hK766
    refine wp_region_lit ?_
    refine sA hS hR (Yld.entryU hS rfl pkQ) (by decide) ?_; clear hS; intro aa hS
    refine sA hS hR (Yld.extract hS rfl rfl) (by decide) ?_; clear hS; intro aa hS
    refine sA hS hR (Yld.extract hS rfl rfl) (by decide) ?_; clear hS; intro aa hS
    refine sA hS hR (Yld.assign hS rfl) (by decide) ?_; clear hS; intro aa hS
    refine sA hS hR (Yld.assign hS rfl) (by decide) ?_; clear hS; intro aa hS
    refine wpList_nil ?_
    refine hK766 _ _ ?_
    refine wp_seq_k ?_; intro K767 hK767
    refine wp_region_lit ?_
    refine sA hS hR (Yld.move hS rfl) (by decide) ?_; clear hS; intro aa hS
    refine sA hS hR (Yld.move hS rfl) (by decide) ?_; clear hS; intro aa hS
    refine sB (Bcall hS rfl Try.call32 (TbFrom_ok (src := kn) hkb (hR.pk (r := tableA _ b _ _ _) pkQ)) (by decide) ?_); clear hS; intro aa ww vv hS hp
    clear hR
    obtain ⟨rd, cd, rfl, hR⟩ := hp
    have hfl := frm_len hW hkb
    rw [hvn] at hfl
    have hfm := fun p (h : p ∈ frmF T.F kn) => frm_mem hW hkb h
    obtain ⟨fr, hfr⟩ : ∃ y, frmF T.F kn = y := ⟨_, rfl⟩
    rw [hfr] at hS hR hfl hfm
    refine sA hS hR (Yld.assign hS rfl) (by decide) ?_; clear hS; intro aa hS
    refine wpList_nil ?_
    refine hK767 _ _ ?_
    refine wp_seq_k ?_; intro K768 hK768
    refine wp_region_lit ?_
    refine sA hS hR (Yld.move hS rfl) (by decide) ?_; clear hS; intro aa hS
    refine sA hS hR (Yld.move hS rfl) (by decide) ?_; clear hS; intro aa hS
    refine sA hS hR (Yld.len hS rfl Try.underlying38) (by decide) ?_; clear hS; intro aa hS
    refine sA hS hR ((by first | exact Yld.add64 hS rfl rfl (by omega) | exact Yld.add hS rfl rfl)) (by decide) ?_; clear hS; intro aa hS
    refine sA hS hR (Yld.assign hS rfl) (by decide) ?_; clear hS; intro aa hS
    refine wpList_nil ?_
    refine hK768 _ _ ?_
    refine wp_seq_k ?_; intro K769 hK769
    refine wp_seq_k ?_; intro K770 hK770
    refine wp_region_lit ?_
    refine sA hS hR (Yld.move hS rfl) (by decide) ?_; clear hS; intro aa hS
    refine sA hS hR (Yld.len hS rfl Try.underlying38) (by decide) ?_; clear hS; intro aa hS
    refine sA hS hR (Yld.move hS rfl) (by decide) ?_; clear hS; intro aa hS
    refine sA hS hR (Yld.neq hS rfl rfl) (by decide) ?_; clear hS; intro aa hS
    replace hS := hS.sayB (t := 155) false rfl (by exact decide_eq_false (by omega))
    refine sA hS hR (Yld.move hS rfl) (by decide) ?_; clear hS; intro aa hS
    refine sAg hS hR rfl rfl (Yld.move hS rfl) (by decide) ?_; clear hS; intro aa hS
    refine sAg hS hR rfl rfl (Yld.move hS rfl) (by decide) ?_; clear hS; intro aa hS
    refine sBg hS rfl rfl (Bcall hS rfl Try.call33 (TbCount_ok (src := kn) hkb (hR.pk (r := tableA _ b _ _ _) pkQ)) (by decide) ?_); clear hS; intro aa ww vv hS hp
    clear hR
    obtain ⟨rfl, hR⟩ := hp
    rw [hfr] at hS
    refine sAg hS hR rfl rfl (Yld.move hS rfl) (by decide) ?_; clear hS; intro aa hS
    refine sAg hS hR rfl rfl (Yld.neq hS rfl rfl) (by decide) ?_; clear hS; intro aa hS
    replace hS := hS.sayB (t := 161) false rfl (by exact decide_eq_false (by omega))
    refine sA hS hR (Yld.pickF hS rfl rfl) (by decide) ?_; clear hS; intro aa hS
    refine wpList_nil ?_
    refine hK770 _ _ ?_
    refine condF hS rfl ?_
    refine wp_skip ?_
    refine hK769 _ _ ?_
    refine wp_seq_k ?_; intro K771 hK771
    refine wp_region_lit ?_
    refine sA hS hR (Yld.move hS rfl) (by decide) ?_; clear hS; intro aa hS
    refine sA hS hR (Yld.len hS rfl Try.underlying38) (by decide) ?_; clear hS; intro aa hS
    refine sA hS hR (Yld.move hS rfl) (by decide) ?_; clear hS; intro aa hS
    refine wpList_nil ?_
    refine hK771 _ _ ?_
    refine wp_block ?_
    refine loopI (X := Nat) [(0, _), (1, _), (6, _), (23, _), (24, _), (25, _), (26, _), (139, _), (140, _), (141, _), (142, _), (143, _), (144, _), (145, _), (146, _), (147, _), (148, _), (149, _), (150, _), (151, _), (152, _), (153, _), (154, _), (155, _), (156, _), (157, _), (158, _), (159, _), (160, _), (161, _), (162, _), (163, _), (164, _)] (fun x => [(165, .int .i64 (x : Int))]) (fun x => []) _ (fun x => x ≤ fr.length) (fun x => fr.length - x) 0 (Nat.zero_le _) (hS.le (Le.cons rfl (Le.nilapp (Le.cons rfl (Le.cons rfl (Le.cons rfl (Le.cons rfl (Le.cons rfl (Le.cons rfl (Le.cons rfl (Le.cons rfl (Le.cons rfl (Le.cons rfl (Le.cons rfl (Le.cons rfl (Le.cons rfl (Le.cons rfl (Le.cons rfl (Le.cons rfl (Le.cons rfl (Le.cons rfl (Le.cons rfl (Le.cons rfl (Le.cons rfl (Le.cons rfl (Le.cons rfl (Le.cons rfl (Le.cons rfl (Le.cons rfl (Le.cons rfl (Le.cons rfl (Le.cons rfl (Le.cons rfl (Le.cons rfl (Le.cons rfl (Le.cons rfl (Le.nil _))))))))))))))))))))))))))))))))))))) hR ?_
    clear hS hR; rintro i aa ww hI hS hR; dsimp only [List.cons_append, List.nil_append] at hI hS hR
    refine wp_seq_k ?_; intro K773 hK773
    refine wp_region_lit ?_
    refine sA hS hR (Yld.lss hS rfl rfl) (by decide) ?_; clear hS; intro aa hS
    refine wpList_nil ?_
    refine hK773 _ _ ?_
    refine wp_seq_k ?_; intro K774 hK774
    refine hS.splitB (t := 166) rfl ?_ ?_ <;> clear hS
    ·
     intro hg hS
     have hil : i < fr.length := by omega
     obtain ⟨f, hf, hfe0, hfs⟩ := hfm (fr[i]) (List.getElem_mem hil)
     have hfe : fr[i] = hd2 f := hfe0.symm
     refine condT hS rfl ?_
     refine wp_skip ?_
     refine hK774 _ _ ?_
     refine wp_seq_k ?_; intro K775 hK775
     refine wp_block ?_
     refine wp_seq_k ?_; intro K776 hK776
     refine wp_region_lit ?_
     refine sA hS hR ((by first | exact Yld.indexL (sz := 2) (i) hS rfl rfl Try.underlying38 info29 pkQ rfl (by first | rfl | omega) (by omega) | exact Yld.indexB (sz := 2) (i) hS rfl rfl Try.underlying38 info29 rfl (by first | rfl | omega) (by omega))) (by decide) ?_; clear hS; intro aa hS
     refine sA hS hR (Yld.loadAgg hS rfl Try.underlying29 rfl info29 (by first | exact Rds.cons (Rd.blk pkQ (by rfl)) (Rds.cons (Rd.blk pkQ (by rfl)) (Rds.nil)) | exact Rds.rec pkQ (by intro _; rfl) (by omega) | exact Rds.flat1 pkQ (by intro _; rfl) (by omega)) (by rfl)) (by decide) ?_; clear hS; intro aa hS
     replace hS := hS.say (t := 168) (vH f.s f.u) rfl (by rw [hfe]; rfl)
     refine sB (Balloc hS hR info29 (by rfl) (by rfl) (by decide) ?_); clear hS hR; intro aa ww bb28 hS hR
     refine sB (Bstore hS hR rfl rfl (by rfl) info29 (by rfl) pkQ (by rfl) (Nat.le_of_ble_eq_true rfl) ?_); clear hR; intro ww hR
     refine wpList_nil ?_
     refine hK776 _ _ ?_
     refine wp_seq_k ?_; intro K777 hK777
     refine wp_region_lit ?_
     refine sA hS hR (Yld.move hS rfl) (by decide) ?_; clear hS; intro aa hS
     refine sA hS hR (Yld.loadAgg hS rfl Try.underlying29 rfl info29 (by first | exact Rds.cons (Rd.blk pkQ (by rfl)) (Rds.cons (Rd.blk pkQ (by rfl)) (Rds.nil)) | exact Rds.rec pkQ (by intro _; rfl) (by omega) | exact Rds.flat1 pkQ (by intro _; rfl) (by omega)) (by rfl)) (by decide) ?_; clear hS; intro aa hS
     refine sB (Bcall hS rfl Try.call22 (TbKey_ok hf (hR.pk (r := tableA _ b _ _ _) pkQ)) (by decide) ?_); clear hS; intro aa ww vv hS hp
     clear hR
     obtain ⟨rfl, hR⟩ := hp
     refine sA hS hR (Yld.move hS rfl) (by decide) ?_; clear hS; intro aa hS
     refine sA hS hR (Yld.extract hS rfl rfl) (by decide) ?_; clear hS; intro aa hS
     refine sA hS hR (Yld.extract hS rfl rfl) (by decide) ?_; clear hS; intro aa hS
     refine sB (Balloc hS hR info35 (by rfl) (by rfl) (by decide) ?_); clear hS hR; intro aa ww bb29 hS hR
     refine sB (Bstore hS hR rfl rfl (by rfl) info35 (by rfl) pkQ (by rfl) (Nat.le_of_ble_eq_true rfl) ?_); clear hR; intro ww hR
     refine sA hS hR (Yld.assign hS rfl) (by decide) ?_; clear hS; intro aa hS
     refine wpList_nil ?_
     refine hK777 _ _ ?_
     refine wp_seq_k ?_; intro K778 hK778
     refine wp_region_lit ?_
     refine sA hS hR (Yld.move hS rfl) (by decide) ?_; clear hS; intro aa hS
     replace hS := hS.sayB (t := 175) true rfl (by rfl)
     refine sA hS hR (Yld.not hS rfl) (by decide) ?_; clear hS; intro aa hS
     refine sA hS hR (Yld.move hS rfl) (by decide) ?_; clear hS; intro aa hS
     refine sAg hS hR rfl rfl (Yld.fieldAddr hS rfl 1 Try.underlying35 rfl rfl info32 (by decide)) (by decide) ?_; clear hS; intro aa hS
     refine sAg hS hR rfl rfl (Yld.load1 hS rfl Try.underlying32 rfl (by first | exact Rd.blk pkQ (by rfl) | exact Rd.rec pkQ (by intro _; rfl) (by omega) rfl | exact Rd.rec0 pkQ (by intro _; rfl) (by omega) rfl | exact Rd.flatJ pkQ (by intro _; rfl) (by omega) rfl | exact Rd.flat0 pkQ (by intro _; rfl) (by omega) rfl)) (by decide) ?_; clear hS; intro aa hS
     refine sAg hS hR rfl rfl (Yld.move hS rfl) (by decide) ?_; clear hS; intro aa hS
     refine sAg hS hR rfl rfl (Yld.neq hS rfl rfl) (by decide) ?_; clear hS; intro aa hS
     replace hS := hS.sayB (t := 181) false rfl (by exact decide_eq_false (fun h => h hfs))
     refine sA hS hR (Yld.pickF hS rfl rfl) (by decide) ?_; clear hS; intro aa hS
     refine wpList_nil ?_
     refine hK778 _ _ ?_
     refine condF hS rfl ?_
     refine wp_skip ?_
     refine hK775 _ _ ?_
     refine wp_region_lit ?_
     refine sA hS hR ((by first | exact Yld.add64 hS rfl rfl (by omega) | exact Yld.add hS rfl rfl)) (by decide) ?_; clear hS; intro aa hS
     refine sA hS hR (Yld.move hS rfl) (by decide) ?_; clear hS; intro aa hS
     refine wpList_nil ?_
     
     refine ⟨i + 1, ?_, ?_, hS.le (Le.cons rfl (Le.nilapp (Le.cons rfl (Le.cons rfl (Le.cons rfl (Le.cons rfl (Le.cons rfl (Le.cons rfl (Le.cons rfl (Le.cons rfl (Le.cons rfl (Le.cons rfl (Le.cons rfl (Le.cons rfl (Le.cons rfl (Le.cons rfl (Le.cons rfl (Le.cons rfl (Le.cons rfl (Le.cons rfl (Le.cons rfl (Le.cons rfl (Le.cons rfl (Le.cons rfl (Le.cons rfl (Le.cons rfl (Le.cons rfl (Le.cons rfl (Le.cons rfl (Le.cons rfl (Le.cons rfl (Le.cons rfl (Le.cons rfl (Le.cons rfl (Le.cons rfl (Le.nil _)))))))))))))))))))))))))))))))))))), hR.sub (Ex.nilapp exQ)⟩
     ·
      omega
     ·
      omega
    ·
     intro hg hS
     refine condF hS rfl ?_
     refine wp_exit ?_
     replace hS := hS.say (t := 23) (.int .i64 (sumD (cntM ks.reverse) (D0 ++ [kn]))) rfl (congrArg (Value.int .i64) (by omega))
     refine ⟨(D0 ++ [kn], some (kn, vn)), ?_, ?_, hS.le (Le.cons rfl (Le.nilapp (Le.cons rfl (Le.cons rfl (Le.cons rfl (Le.cons rfl (Le.nil _))))))), hR.sub (Ex.take pkQ (Ex.nilapp exQ))⟩
     ·
      trivial
     ·
      dsimp only; rw [List.length_append, List.length_singleton]; omega
end Go.Proofs.Ythhndmlfgjcgpaa.Sx
