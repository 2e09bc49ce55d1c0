/-
  
-/
import Derived.Test.YthhndmlfgjcgpaaLwD
import Derived.Test.YthhndmlfgjcgpaaPu
namespace Go.Proofs.Ythhndmlfgjcgpaa.Sx
open Go
set_option linter.unusedVariables false
set_option linter.unusedSimpArgs false

theorem info38 : Try.prog.info? 38 = some Try.t38 := by kernel_rfl
theorem info39 : Try.prog.info? 39 = some Try.t39 := by kernel_rfl

set_option maxHeartbeats 8000000 in
set_option maxRecDepth 20000 in
theorem TableMoves_ok {W : World} {q : Option Addr} {n c : Nat} {z1 z2 : Int} {xs : List (List Int)} (A1 : ArgS W [.u32] q n c xs) {l : List HP} {w : World} (hz1 : 0 ≤ z1 ∧ z1 ≤ 255) (hz2 : 0 ≤ z2 ∧ z2 ≤ 255) (hR : Sep (old W :: l) w) : CallR Try.prog 3 [.slice q n c, .int .u8 z1, .int .u8 z2] w (fun v w' => v = .bool true ∧ Sep (old W :: l) w') := by
  refine enter Try.func3 rfl Try.ntmps3 (Nat.le_of_ble_eq_true rfl) ?_; intro aa hS
  have hcap := A1.cap
  refine wp_seq_k ?_; intro K669 hK669
  refine wp_region_lit ?_
  refine sA hS hR (Yld.assign hS rfl) (by decide) ?_; clear hS; intro aa hS
  refine wpList_nil ?_
  refine hK669 _ _ ?_
  refine wp_seq_k ?_; intro K670 hK670
  refine wp_region_lit ?_
  refine sA hS hR (Yld.move hS rfl) (by decide) ?_; clear hS; intro aa hS
  refine sA hS hR (Yld.move hS rfl) (by decide) ?_; clear hS; intro aa hS
  refine sA hS hR (Yld.len hS rfl Try.underlying22) (by decide) ?_; clear hS; intro aa hS
  refine sA hS hR (Yld.min hS rfl rfl) (by decide) ?_; clear hS; intro aa hS
  refine sA hS hR (Yld.sliceHi hS rfl rfl Try.underlying22 info32 (by omega) (by omega)) (by decide) ?_; clear hS; intro aa hS
  obtain ⟨mm, hmm0, hmm1⟩ : ∃ y : Nat, (Min.min (n : Int) 20).toNat = y ∧ y ≤ n ∧ y ≤ 20 := ⟨_, rfl, by omega, by omega⟩
  replace hS := hS.say (t := 32) (.slice q mm c) rfl (by rw [hmm0])
  refine sB (Bcall hS rfl Try.call10 (filled_ok (S := 20) A1 (m := mm) (by omega) (by omega) (by omega) (by omega) (hR.pk (r := old W) pkQ)) (by decide) ?_); clear hS; intro aa ww vv hS hp
  clear hR
  obtain ⟨b, T, ks, rk, rkc, rfl, hF, hkl, hR⟩ := hp
  refine sA hS hR (Yld.move hS rfl) (by decide) ?_; clear hS; intro aa hS
  refine sA hS hR (Yld.extract hS rfl rfl) (by decide) ?_; clear hS; intro aa hS
  refine sA hS hR (Yld.extract hS rfl rfl) (by decide) ?_; clear hS; intro aa hS
  refine sA hS hR (Yld.extract hS rfl rfl) (by decide) ?_; clear hS; intro aa hS
  refine sA hS hR (Yld.assign hS rfl) (by decide) ?_; clear hS; intro aa hS
  refine sA hS hR (Yld.assign hS rfl) (by decide) ?_; clear hS; intro aa hS
  refine sA hS hR (Yld.assign hS rfl) (by decide) ?_; clear hS; intro aa hS
  refine wpList_nil ?_
  refine hK670 _ _ ?_
  refine wp_seq_k ?_; intro K671 hK671
  refine wp_seq_k ?_; intro K672 hK672
  refine wp_region_lit ?_
  refine sA hS hR (Yld.move hS rfl) (by decide) ?_; clear hS; intro aa hS
  replace hS := hS.sayB (t := 37) true rfl (by rfl)
  refine sA hS hR (Yld.not hS rfl) (by decide) ?_; clear hS; intro aa hS
  refine wpList_nil ?_
  refine hK672 _ _ ?_
  refine condF hS rfl ?_
  refine wp_skip ?_
  refine hK671 _ _ ?_
  refine wp_seq_k ?_; intro K673 hK673
  refine wp_seq_k ?_; intro K674 hK674
  refine wp_region_lit ?_
  refine sA hS hR (Yld.move hS rfl) (by decide) ?_; clear hS; intro aa hS
  refine sA hS hR (Yld.len hS rfl Try.underlying24) (by decide) ?_; clear hS; intro aa hS
  refine sA hS hR (Yld.eql hS rfl rfl) (by decide) ?_; clear hS; intro aa hS
  refine wpList_nil ?_
  refine hK674 _ _ ?_
  refine hS.splitB (t := 41) rfl ?_ ?_ <;> clear hS
  · intro hg hS
    refine condT hS rfl ?_
    refine wp_seq_k ?_; intro K675 hK675
    refine wp_region_lit ?_
    refine sB (Bcall hS rfl Try.call11 (awake16_ok hR) (by decide) ?_); clear hS; intro aa ww vv hS hp
    clear hR
    obtain ⟨rfl, hR⟩ := hp
    refine sA hS hR (Yld.assign hS rfl) (by decide) ?_; clear hS; intro aa hS
    refine wpList_nil ?_
    refine hK675 _ _ ?_
    refine wp_ret ?_
    repeat (first | with_reducible refine thenR ?_ | with_reducible refine blockR ?_ | with_reducible refine scopeR ?_)
    refine ret1 (fn := Try.f3) (e := .ret) (.inl rfl) Try.results3 hS hR ⟨_, (.tmp rfl), ?_⟩
    exact ⟨rfl, (hR.sub exQ)⟩
  · intro hg hS
    refine condF hS rfl ?_
    refine wp_skip ?_
    refine hK673 _ _ ?_
    refine wp_seq_k ?_; intro K676 hK676
    refine wp_region_lit ?_
    refine sA hS hR (Yld.move hS rfl) (by decide) ?_; clear hS; intro aa hS
    refine sA hS hR (Yld.move hS rfl) (by decide) ?_; clear hS; intro aa hS
    refine sA hS hR (Yld.move hS rfl) (by decide) ?_; clear hS; intro aa hS
    refine sA hS hR ((by first | exact Yld.to (Yld.convInt hS rfl rfl Try.underlying3) (congrArg (Value.int .i64) (IntWalk.i64_in _ (by omega))) | exact Yld.convInt hS rfl rfl Try.underlying3)) (by decide) ?_; clear hS; intro aa hS
    refine sA hS hR (Yld.move hS rfl) (by decide) ?_; clear hS; intro aa hS
    refine sA hS hR (Yld.len hS rfl Try.underlying24) (by decide) ?_; clear hS; intro aa hS
    refine sA hS hR ((by first | exact Yld.rem64 hS rfl rfl (by omega) | exact Yld.rem hS rfl rfl (by omega))) (by decide) ?_; clear hS; intro aa hS
    obtain ⟨q1, hq1, hq1l⟩ := emod_nat (n := z1) (d := (ks.length : Int)) (m := ks.length) rfl (by omega)
    replace hS := hS.say (t := 50) (.int .i64 (q1 : Int)) rfl (by rw [hq1])
    obtain ⟨f, hf, hfs, hfu, hfk, _⟩ := hF.at hq1l
    have hTF := hF.tf
    have hfw := hTF.wf f hf
    have hTl := hTF.len
    have hfnd : fndK T.F f.k = some f := (fndK_mem hTF).2 ⟨hf, .inl rfl⟩
    refine sA hS hR ((by first | exact Yld.indexL (sz := 5) (q1) hS rfl rfl Try.underlying24 info35 pkQ rfl (by first | rfl | omega) (by omega) | exact Yld.indexB (sz := 5) (q1) hS rfl rfl Try.underlying24 info35 rfl (by first | rfl | omega) (by omega))) (by decide) ?_; clear hS; intro aa hS
    refine sA hS hR (Yld.loadAgg hS rfl Try.underlying35 rfl info35 (by first | exact Rds.cons (Rd.blk pkQ (by rfl)) (Rds.cons (Rd.blk pkQ (by rfl)) (Rds.cons (Rd.blk pkQ (by rfl)) (Rds.cons (Rd.blk pkQ (by rfl)) (Rds.cons (Rd.blk pkQ (by rfl)) (Rds.nil))))) | exact Rds.rec pkQ (by intro _; rfl) (by omega) | exact Rds.flat1 pkQ (by intro _; rfl) (by omega)) (by rfl)) (by decide) ?_; clear hS; intro aa hS
    replace hS := hS.say (t := 52) (vK f.k) rfl (by rw [hfk])
    refine sB (Bcall hS rfl Try.call12 (Find_ok (k := f.k) hfw (hR.pk (r := tableA _ b _ _ _) pkQ)) (by decide) ?_); clear hS; intro aa ww vv hS hp
    clear hR
    obtain ⟨rfl, hR⟩ := hp
    rw [fndV_some hfnd] at hS
    refine sA hS hR (Yld.move hS rfl) (by decide) ?_; clear hS; intro aa hS
    refine sA hS hR (Yld.extract hS rfl rfl) (by decide) ?_; clear hS; intro aa hS
    refine sA hS hR (Yld.extract hS rfl rfl) (by decide) ?_; clear hS; intro aa hS
    refine sA hS hR (Yld.extract hS rfl rfl) (by decide) ?_; clear hS; intro aa hS
    refine sB (Balloc hS hR info29 (by rfl) (by rfl) (by decide) ?_); clear hS hR; intro aa ww bb10 hS hR
    refine sB (Bstore hS hR rfl rfl (by rfl) info29 (by rfl) pkQ (by rfl) (Nat.le_of_ble_eq_true rfl) ?_); clear hR; intro ww hR
    refine sA hS hR (Yld.assign hS rfl) (by decide) ?_; clear hS; intro aa hS
    refine sA hS hR (Yld.assign hS rfl) (by decide) ?_; clear hS; intro aa hS
    refine wpList_nil ?_
    refine hK676 _ _ ?_
    refine wp_seq_k ?_; intro K677 hK677
    refine wp_region_lit ?_
    refine sA hS hR (Yld.move hS rfl) (by decide) ?_; clear hS; intro aa hS
    refine sA hS hR ((by first | exact Yld.to (Yld.convInt hS rfl rfl Try.underlying3) (congrArg (Value.int .i64) (IntWalk.i64_in _ (by omega))) | exact Yld.convInt hS rfl rfl Try.underlying3)) (by decide) ?_; clear hS; intro aa hS
    refine sA hS hR ((by first | exact Yld.rem64 hS rfl rfl (by omega) | exact Yld.rem hS rfl rfl (by omega))) (by decide) ?_; clear hS; intro aa hS
    obtain ⟨to, hto, hto3⟩ := emod_nat (n := z2) (d := 3) (m := 3) rfl (by omega)
    replace hS := hS.say (t := 59) (.int .i64 (to : Int)) rfl (by rw [hto])
    have hfi := hTF.lt f hf
    refine sA hS hR (Yld.assign hS rfl) (by decide) ?_; clear hS; intro aa hS
    refine wpList_nil ?_
    refine hK677 _ _ ?_
    refine wp_seq_k ?_; intro K678 hK678
    refine wp_region_lit ?_
    refine sA hS hR (Yld.move hS rfl) (by decide) ?_; clear hS; intro aa hS
    refine sA hS hR (Yld.loadAgg hS rfl Try.underlying29 rfl info29 (by first | exact Rds.cons (Rd.blk pkQ (by rfl)) (Rds.cons (Rd.blk pkQ (by rfl)) (Rds.nil)) | exact Rds.rec pkQ (by intro _; rfl) (by omega) | exact Rds.flat1 pkQ (by intro _; rfl) (by omega)) (by rfl)) (by decide) ?_; clear hS; intro aa hS
    refine sB (Bcall hS rfl Try.call13 (TbList_ok hf (hR.pk (r := tableA _ b _ _ _) pkQ)) (by decide) ?_); clear hS; intro aa ww vv hS hp
    clear hR
    obtain ⟨rfl, hR⟩ := hp
    refine sA hS hR (Yld.move hS rfl) (by decide) ?_; clear hS; intro aa hS
    refine sA hS hR (Yld.extract hS rfl rfl) (by decide) ?_; clear hS; intro aa hS
    refine sA hS hR (Yld.extract hS rfl rfl) (by decide) ?_; clear hS; intro aa hS
    refine sA hS hR (Yld.assign hS rfl) (by decide) ?_; clear hS; intro aa hS
    refine sA hS hR (Yld.assign hS rfl) (by decide) ?_; clear hS; intro aa hS
    refine wpList_nil ?_
    refine hK678 _ _ ?_
    refine wp_seq_k ?_; intro K679 hK679
    refine wp_region_lit ?_
    refine sB (Balloc hS hR info39 (by rfl) (by rfl) (by decide) ?_); clear hS hR; intro aa ww bb16 hS hR
    replace hR := hR.pk (r := blk bb16 _ _) pkQ
    change Sep (blk bb16 ((List.replicate 3 (((none, 0), []) : RowG Hd)).flatMap eRG) 39 :: _) _ at hR
    replace hR := hR.rowsGNew (n := 3) (TI := 29) (sz := 2) (enc := e2)
    refine wpList_nil ?_
    refine hK679 _ _ ?_
    refine wp_seq_k ?_; intro K680 hK680
    refine wp_seq_k ?_; intro K681 hK681
    refine wp_region_lit ?_
    refine sA hS hR (Yld.move hS rfl) (by decide) ?_; clear hS; intro aa hS
    refine wpList_nil ?_
    refine hK681 _ _ ?_
    refine wp_block ?_
    replace hR := hR.pk (r := rowsG 29 2 e2 (List.replicate 3 (((none, 0), []) : RowG Hd))) pkQ
    replace hR := hR.pk (r := blk bb16 ((List.replicate 3 (((none, 0), []) : RowG Hd)).flatMap eRG) 39) pkQ
    refine loopI (X := Nat × List (RowG Hd)) [(6, _), (7, _), (10, _), (13, _), (14, _), (15, _), (16, _)] (fun x => [(66, .int .i64 (x.1 : Int))]) (fun x => [blk bb16 (x.2.flatMap eRG) 39, rowsG 29 2 e2 x.2]) _ (fun x => x.1 ≤ 3 ∧ RowsAre 3 x.2 (fun j : Nat => if j < x.1 then butF ((inF T.F (j : Int)).map hd2) (hd2 f) else [])) (fun x => 3 - x.1) (0, List.replicate 3 (((none, 0), []) : RowG Hd)) ⟨by omega, RowsAre.new.ext fun j hj => (if_neg (Nat.not_lt_zero _)).symm⟩ (hS.le (Le.cons rfl (Le.nilapp (Le.cons rfl (Le.cons rfl (Le.cons rfl (Le.cons rfl (Le.cons rfl (Le.cons rfl (Le.cons rfl (Le.nil _))))))))))) hR ?_
    clear hS hR; rintro ⟨m3, ys⟩ aa ww hI hS hR; dsimp only [List.cons_append, List.nil_append] at hI hS hR
    refine wp_seq_k ?_; intro K683 hK683
    refine wp_region_lit ?_
    refine sA hS hR (Yld.lss hS rfl rfl) (by decide) ?_; clear hS; intro aa hS
    refine wpList_nil ?_
    refine hK683 _ _ ?_
    refine wp_seq_k ?_; intro K684 hK684
    refine hS.splitB (t := 67) rfl ?_ ?_ <;> clear hS
    · intro hg hS
      obtain ⟨R, hRe⟩ : ∃ R : Nat → List Hd, (fun j : Nat => if j < m3 then butF ((inF T.F (j : Int)).map hd2) (hd2 f) else []) = R := ⟨_, rfl⟩
      have hRA0 := hI.2
      rw [hRe] at hRA0
      refine condT hS rfl ?_
      refine wp_skip ?_
      refine hK684 _ _ ?_
      refine wp_seq_k ?_; intro K685 hK685
      refine wp_block ?_
      refine wp_seq_k ?_; intro K686 hK686
      refine wp_region_lit ?_
      refine sA hS hR (Yld.move hS rfl) (by decide) ?_; clear hS; intro aa hS
      refine sA hS hR (Yld.assign hS rfl) (by decide) ?_; clear hS; intro aa hS
      refine wpList_nil ?_
      refine hK686 _ _ ?_
      refine wp_seq_k ?_; intro K687 hK687
      refine wp_region_lit ?_
      refine sA hS hR (Yld.move hS rfl) (by decide) ?_; clear hS; intro aa hS
      refine sA hS hR (Yld.move hS rfl) (by decide) ?_; clear hS; intro aa hS
      refine sB (Bcall hS rfl Try.call14 (TbIn_ok (i := (m3 : Int)) (hR.pk (r := tableA _ b _ _ _) pkQ)) (by decide) ?_); clear hS; intro aa ww vv hS hp
      clear hR
      obtain ⟨ra, ca, rfl, hR⟩ := hp
      have hll : (inF T.F (m3 : Int)).length ≤ 20 := Nat.le_trans inF_len hTl
      have hLl : ((inF T.F (m3 : Int)).map hd2).length ≤ 20 := by rw [List.length_map]; exact hll
      obtain ⟨lst, hlst⟩ : ∃ y, ((inF T.F (m3 : Int)).map hd2) = y := ⟨_, rfl⟩
      rw [hlst] at hS hR hLl
      refine sA hS hR (Yld.len hS rfl Try.underlying38) (by decide) ?_; clear hS; intro aa hS
      refine sA hS hR (Yld.move hS rfl) (by decide) ?_; clear hS; intro aa hS
      refine wpList_nil ?_
      refine hK687 _ _ ?_
      refine wp_block ?_
      replace hR := hR.pk (r := rowsG 29 2 e2 ys) pkQ
      replace hR := hR.pk (r := blk bb16 (ys.flatMap eRG) 39) pkQ
      refine loopI (X := Nat × List (RowG Hd)) [(6, _), (7, _), (10, _), (13, _), (14, _), (15, _), (16, _), (17, _), (66, _), (67, _), (68, _), (69, _), (70, _), (71, _), (72, _)] (fun x => [(73, .int .i64 (x.1 : Int))]) (fun x => [blk bb16 (x.2.flatMap eRG) 39, rowsG 29 2 e2 x.2]) _ (fun x => x.1 ≤ lst.length ∧ RowsAre 3 x.2 (upd R m3 (butF (lst.take x.1) (hd2 f)))) (fun x => lst.length - x.1) (0, ys) ⟨Nat.zero_le _, hRA0.ext fun j hj => by
          by_cases e : j = m3
          · subst e; rw [upd_eq, ← hRe]; dsimp only; rw [if_neg (by omega)]; rfl
          · rw [upd_ne e]⟩ (hS.le (Le.cons rfl (Le.nilapp (Le.cons rfl (Le.cons rfl (Le.cons rfl (Le.cons rfl (Le.cons rfl (Le.cons rfl (Le.cons rfl (Le.cons rfl (Le.cons rfl (Le.cons rfl (Le.cons rfl (Le.cons rfl (Le.cons rfl (Le.cons rfl (Le.cons rfl (Le.nil _))))))))))))))))))) hR ?_
      clear hS hR; rintro ⟨i, ys⟩ aa ww hI hS hR; dsimp only [List.cons_append, List.nil_append] at hI hS hR
      have hRA := hI.2
      refine wp_seq_k ?_; intro K689 hK689
      refine wp_region_lit ?_
      refine sA hS hR (Yld.lss hS rfl rfl) (by decide) ?_; clear hS; intro aa hS
      refine wpList_nil ?_
      refine hK689 _ _ ?_
      refine wp_seq_k ?_; intro K690 hK690
      refine hS.splitB (t := 74) rfl ?_ ?_ <;> clear hS
      · intro hg hS
        have hil : i < lst.length := by omega
        refine condT hS rfl ?_
        refine wp_skip ?_
        refine hK690 _ _ ?_
        refine wp_seq_k ?_; intro K691 hK691
        refine wp_block ?_
        refine wp_seq_k ?_; intro K692 hK692
        refine wp_region_lit ?_
        refine sA hS hR ((by first | exact Yld.indexL (sz := 2) (i) hS rfl rfl Try.underlying38 info29 pkQ rfl (by first | rfl | omega) (by omega) | exact Yld.indexB (sz := 2) (i) hS rfl rfl Try.underlying38 info29 rfl (by first | rfl | omega) (by omega))) (by decide) ?_; clear hS; intro aa hS
        refine sA hS hR (Yld.loadAgg hS rfl Try.underlying29 rfl info29 (by first | exact Rds.cons (Rd.blk pkQ (by rfl)) (Rds.cons (Rd.blk pkQ (by rfl)) (Rds.nil)) | exact Rds.rec pkQ (by intro _; rfl) (by omega) | exact Rds.flat1 pkQ (by intro _; rfl) (by omega)) (by rfl)) (by decide) ?_; clear hS; intro aa hS
        obtain ⟨x0, hx0⟩ : ∃ y : Hd, lst[i]'(by omega) = y := ⟨_, rfl⟩
        replace hS := hS.say (t := 76) (vH x0.1 x0.2) rfl (by rw [hx0]; rfl)
        refine sB (Balloc hS hR info29 (by rfl) (by rfl) (by decide) ?_); clear hS hR; intro aa ww bb19 hS hR
        refine sB (Bstore hS hR rfl rfl (by rfl) info29 (by rfl) pkQ (by rfl) (Nat.le_of_ble_eq_true rfl) ?_); clear hR; intro ww hR
        refine wpList_nil ?_
        refine hK692 _ _ ?_
        refine wp_seq_k ?_; intro K693 hK693
        refine wp_region_lit ?_
        refine sA hS hR (Yld.loadAgg hS rfl Try.underlying29 rfl info29 (by first | exact Rds.cons (Rd.blk pkQ (by rfl)) (Rds.cons (Rd.blk pkQ (by rfl)) (Rds.nil)) | exact Rds.rec pkQ (by intro _; rfl) (by omega) | exact Rds.flat1 pkQ (by intro _; rfl) (by omega)) (by rfl)) (by decide) ?_; clear hS; intro aa hS
        refine sA hS hR (Yld.loadAgg hS rfl Try.underlying29 rfl info29 (by first | exact Rds.cons (Rd.blk pkQ (by rfl)) (Rds.cons (Rd.blk pkQ (by rfl)) (Rds.nil)) | exact Rds.rec pkQ (by intro _; rfl) (by omega) | exact Rds.flat1 pkQ (by intro _; rfl) (by omega)) (by rfl)) (by decide) ?_; clear hS; intro aa hS
        refine sA hS hR (Yld.binRun hS rfl rfl (neq29 _ _ _ _ _ _)) (by decide) ?_; clear hS; intro aa hS
        refine wpList_nil ?_
        refine hK693 _ _ ?_
        refine hS.splitB (t := 79) rfl ?_ ?_ <;> clear hS
        · intro hg hS
          have hne : lst[i] ≠ hd2 f := by rw [hx0]; exact fun e => hg ⟨congrArg Prod.fst e, congrArg Prod.snd e⟩
          have hby := butF_yes hil hne
          rw [hx0] at hby
          refine condT hS rfl ?_
          obtain ⟨rr, rc, hrow⟩ := hRA.at' m3 (by omega)
          have hyl := hRA.len
          have hry : ys[m3]'(by omega) = ((rr, rc), upd R m3 (butF (lst.take i) (hd2 f)) m3) := (List.getElem?_eq_some_iff.1 hrow).2
          have hbl : (upd R m3 (butF (lst.take i) (hd2 f)) m3).length ≤ 20 := by rw [upd_eq]; exact Nat.le_trans butF_len hLl
          replace hR := (hR.pk (r := rowsG _ _ _ ys) pkQ).rowGAt hrow
          dsimp only at hR
          refine drawnL2 8 (by kernel_rfl) hR (Ex.of_pk (r := sls rr _ _ _ _ _) pkQ) ?_; clear hR; intro ww hR hR0
          refine lA 0 rfl (by kernel_rfl) (by kernel_rfl) (by kernel_rfl) (by kernel_rfl) (fun _ _ _ h => h) hS hR0 (Yld.move hS rfl) (by decide) ?_; clear hS; intro aa hS
          refine lA 1 rfl (by kernel_rfl) (by kernel_rfl) (by kernel_rfl) (by kernel_rfl) (fun _ _ _ h => h) hS hR0 (Yld.move hS rfl) (by decide) ?_; clear hS; intro aa hS
          refine lA 2 rfl (by kernel_rfl) (by kernel_rfl) (by kernel_rfl) (by kernel_rfl) (fun _ _ _ h => h) hS hR0 (Yld.to (u := .pointer (some ⟨bb16, m3 * 1, none⟩)) (Yld.indexArr hS rfl rfl Try.underlying39 info38 (by omega) (by omega)) (by have h1 : (Try.t38).size = 1 := rfl; rw [h1]; congr 3 <;> omega)) (by decide) ?_; clear hS; intro aa hS
          refine lA 3 rfl (by kernel_rfl) (by kernel_rfl) (by kernel_rfl) (by kernel_rfl) (fun _ _ _ h => h) hS hR0 (Yld.load1 hS rfl Try.underlying38 rfl (Rd.flat0 (sz := 1) (k := m3) (xs := ys) (v := .slice rr (upd R m3 (butF (lst.take i) (hd2 f)) m3).length rc) pkQ (by intro _; rfl) (by omega) (by rw [hry]; rfl))) (by decide) ?_; clear hS; intro aa hS
          refine lA 4 rfl (by kernel_rfl) (by kernel_rfl) (by kernel_rfl) (by kernel_rfl) (fun _ _ _ h => h) hS hR0 (Yld.loadAgg hS rfl Try.underlying29 rfl info29 (by first | exact Rds.cons (Rd.blk pkQ (by rfl)) (Rds.cons (Rd.blk pkQ (by rfl)) (Rds.nil)) | exact Rds.rec pkQ (by intro _; rfl) (by omega) | exact Rds.flat1 pkQ (by intro _; rfl) (by omega)) (by rfl)) (by decide) ?_; clear hS; intro aa hS
          refine lOne (i := 5) (by kernel_rfl) ?_
          refine dop rfl (BbuildSlice hS hR rfl (bls38_1_0 _ _) (by decide) ?_); clear hS hR hR0; intro aa ww bb85 hS hR
          refine lnext (hR.sub exQ) ?_; intro hR0
          refine lOne (i := 6) (by kernel_rfl) ?_
          refine dop rfl (BappendR (sz := 2) hS hR rfl rfl Try.underlying38 info29 rfl rfl (by rfl) pkQ (XC.one (x0) pkQ (by rfl) rfl) (by intro _; rfl) (by show (_ + _) * 16 ≤ _; first | omega | (simp only [List.length_take, List.length_append, List.length_drop, List.length_cons, List.length_nil, List.length_map]; omega)) (by first | omega | (simp only [List.length_take, List.length_append, List.length_drop, List.length_cons, List.length_nil, List.length_map]; omega)) (by first | rfl | (simp; done) | (simp; omega)) (by decide) ?_); clear hS hR hR0; intro aa ww r86 c86 hS hR
          refine lnext (hR.sub exQ) ?_; intro hR0
          refine lA 7 rfl (by kernel_rfl) (by kernel_rfl) (by kernel_rfl) (by kernel_rfl) (fun _ _ _ h => h) hS hR0 (Yld.to (u := .pointer (some ⟨bb16, m3, none⟩)) (Yld.indexArr hS rfl rfl Try.underlying39 info38 (by omega) (by omega)) (by have h1 : (Try.t38).size = 1 := rfl; rw [h1]; congr 3 <;> omega)) (by decide) ?_; clear hS; intro aa hS
          refine lOne (i := 8) (by kernel_rfl) ?_
          refine dop rfl (BstoreG (ys := ys) (xs := upd R m3 (butF (lst.take i) (hd2 f)) m3 ++ [x0]) hS hR rfl rfl info38 rfl pkQ (by omega) rfl ?_); clear hR hR0; intro ww hR
          refine lend ?_
          replace hR := Sep.rowGSet (i := m3) (ys := ys) ((hR.pk (r := rowsG _ _ _ (ys.take _ ++ _)) pkQ).pk (r := sls r86 _ _ _ _ _) pkQ) rfl (by omega)
          refine wpAnyL_done (by kernel_rfl) ?_ _; try clear hR0
          refine hK691 _ _ ?_
          refine wp_region_lit ?_
          refine sA hS hR ((by first | exact Yld.add64 hS rfl rfl (by omega) | exact Yld.add hS rfl rfl)) (by decide) ?_; clear hS; intro aa hS
          refine sA hS hR (Yld.move hS rfl) (by decide) ?_; clear hS; intro aa hS
          refine wpList_nil ?_
          
          refine ⟨(i + 1, _), ?_, ?_, hS.le (Le.cons rfl (Le.nilapp (Le.cons rfl (Le.cons rfl (Le.cons rfl (Le.cons rfl (Le.cons rfl (Le.cons rfl (Le.cons rfl (Le.cons rfl (Le.cons rfl (Le.cons rfl (Le.cons rfl (Le.cons rfl (Le.cons rfl (Le.cons rfl (Le.cons rfl (Le.nil _)))))))))))))))))), hR.sub (Ex.take pkQ (Ex.take pkQ (Ex.nilapp exQ)))⟩
          · dsimp only; first | exact ⟨by omega, (hRA.set (by omega)).ext fun j hj => by
              by_cases e : j = m3
              · subst e; rw [upd_eq, upd_eq, upd_eq, hby]
              · rw [upd_ne e, upd_ne e, upd_ne e]⟩ | exact ⟨by omega, by rw [hby]; exact hRA⟩
          · dsimp only; omega
        · intro hg hS
          have hne : ¬ lst[i] ≠ hd2 f := fun h => h (by rw [hx0]; exact Prod.ext hg.1 hg.2)
          have hby := butF_no hil hne
          refine condF hS rfl ?_
          refine wp_skip ?_
          refine hK691 _ _ ?_
          refine wp_region_lit ?_
          refine sA hS hR ((by first | exact Yld.add64 hS rfl rfl (by omega) | exact Yld.add hS rfl rfl)) (by decide) ?_; clear hS; intro aa hS
          refine sA hS hR (Yld.move hS rfl) (by decide) ?_; clear hS; intro aa hS
          refine wpList_nil ?_
          
          refine ⟨(i + 1, _), ?_, ?_, hS.le (Le.cons rfl (Le.nilapp (Le.cons rfl (Le.cons rfl (Le.cons rfl (Le.cons rfl (Le.cons rfl (Le.cons rfl (Le.cons rfl (Le.cons rfl (Le.cons rfl (Le.cons rfl (Le.cons rfl (Le.cons rfl (Le.cons rfl (Le.cons rfl (Le.cons rfl (Le.nil _)))))))))))))))))), hR.sub (Ex.take pkQ (Ex.take pkQ (Ex.nilapp exQ)))⟩
          · dsimp only; first | exact ⟨by omega, (hRA.set (by omega)).ext fun j hj => by
              by_cases e : j = m3
              · subst e; rw [upd_eq, upd_eq, upd_eq, hby]
              · rw [upd_ne e, upd_ne e, upd_ne e]⟩ | exact ⟨by omega, by rw [hby]; exact hRA⟩
          · dsimp only; omega
      · intro hg hS
        obtain rfl : i = lst.length := by omega
        have hfin : RowsAre 3 ys (fun j : Nat => if j < m3 + 1 then butF ((inF T.F (j : Int)).map hd2) (hd2 f) else []) := hI.2.ext fun j hj => by
          by_cases e : j = m3
          · subst e; rw [upd_eq, if_pos (by omega), hlst, List.take_length]
          · rw [upd_ne e, ← hRe]; dsimp only
            by_cases e2 : j < m3
            · rw [if_pos e2, if_pos (by omega)]
            · rw [if_neg e2, if_neg (by omega)]
        refine condF hS rfl ?_
        refine wp_exit ?_
        refine hK685 _ _ ?_
        refine wp_region_lit ?_
        refine sA hS hR ((by first | exact Yld.add64 hS rfl rfl (by omega) | exact Yld.add hS rfl rfl)) (by decide) ?_; clear hS; intro aa hS
        refine sA hS hR (Yld.move hS rfl) (by decide) ?_; clear hS; intro aa hS
        refine wpList_nil ?_
        
        refine ⟨(m3 + 1, ys), ?_, ?_, hS.le (Le.cons rfl (Le.nilapp (Le.cons rfl (Le.cons rfl (Le.cons rfl (Le.cons rfl (Le.cons rfl (Le.cons rfl (Le.cons rfl (Le.nil _)))))))))), hR.sub (Ex.take pkQ (Ex.take pkQ (Ex.nilapp exQ)))⟩
        · exact ⟨by dsimp only; omega, hfin⟩
        · dsimp only; omega
    · intro hg hS
      obtain rfl : m3 = 3 := by omega
      obtain ⟨R, hRe⟩ : ∃ R : Nat → List Hd, (fun j : Nat => butF ((inF T.F (j : Int)).map hd2) (hd2 f)) = R := ⟨_, rfl⟩
      have hRA : RowsAre 3 ys R := by rw [← hRe]; exact hI.2.ext fun j hj => if_pos hj
      refine condF hS rfl ?_
      refine wp_exit ?_
      refine hK680 _ _ ?_
      refine wp_seq_k ?_; intro K694 hK694
      obtain ⟨rr, rc, hrow⟩ := hRA.at' to (by omega)
      have hyl := hRA.len
      have hry : ys[to]'(by omega) = ((rr, rc), R to) := (List.getElem?_eq_some_iff.1 hrow).2
      have hbl : (R to).length ≤ 20 := by rw [← hRe]; exact Nat.le_trans butF_le (by rw [List.length_map]; exact Nat.le_trans inF_len hTl)
      replace hR := (hR.pk (r := rowsG _ _ _ ys) pkQ).rowGAt hrow
      dsimp only at hR
      refine drawnL2 8 (by kernel_rfl) hR (Ex.of_pk (r := sls rr _ _ _ _ _) pkQ) ?_; clear hR; intro ww hR hR0
      refine lA 0 rfl (by kernel_rfl) (by kernel_rfl) (by kernel_rfl) (by kernel_rfl) (fun _ _ _ h => h) hS hR0 (Yld.move hS rfl) (by decide) ?_; clear hS; intro aa hS
      refine lA 1 rfl (by kernel_rfl) (by kernel_rfl) (by kernel_rfl) (by kernel_rfl) (fun _ _ _ h => h) hS hR0 (Yld.move hS rfl) (by decide) ?_; clear hS; intro aa hS
      refine lA 2 rfl (by kernel_rfl) (by kernel_rfl) (by kernel_rfl) (by kernel_rfl) (fun _ _ _ h => h) hS hR0 (Yld.to (u := .pointer (some ⟨bb16, to * 1, none⟩)) (Yld.indexArr hS rfl rfl Try.underlying39 info38 (by omega) (by omega)) (by have h1 : (Try.t38).size = 1 := rfl; rw [h1]; congr 3 <;> omega)) (by decide) ?_; clear hS; intro aa hS
      refine lA 3 rfl (by kernel_rfl) (by kernel_rfl) (by kernel_rfl) (by kernel_rfl) (fun _ _ _ h => h) hS hR0 (Yld.load1 hS rfl Try.underlying38 rfl (Rd.flat0 (sz := 1) (k := to) (xs := ys) (v := .slice rr (R to).length rc) pkQ (by intro _; rfl) (by omega) (by rw [hry]; rfl))) (by decide) ?_; clear hS; intro aa hS
      refine lA 4 rfl (by kernel_rfl) (by kernel_rfl) (by kernel_rfl) (by kernel_rfl) (fun _ _ _ h => h) hS hR0 (Yld.loadAgg hS rfl Try.underlying29 rfl info29 (by first | exact Rds.cons (Rd.blk pkQ (by rfl)) (Rds.cons (Rd.blk pkQ (by rfl)) (Rds.nil)) | exact Rds.rec pkQ (by intro _; rfl) (by omega) | exact Rds.flat1 pkQ (by intro _; rfl) (by omega)) (by rfl)) (by decide) ?_; clear hS; intro aa hS
      refine lOne (i := 5) (by kernel_rfl) ?_
      refine dop rfl (BbuildSlice hS hR rfl (bls38_1_0 _ _) (by decide) ?_); clear hS hR hR0; intro aa ww bb95 hS hR
      refine lnext (hR.sub exQ) ?_; intro hR0
      refine lOne (i := 6) (by kernel_rfl) ?_
      refine dop rfl (BappendR (sz := 2) hS hR rfl rfl Try.underlying38 info29 rfl rfl (by rfl) pkQ (XC.one (hd2 f) pkQ (by rfl) rfl) (by intro _; rfl) (by show (_ + _) * 16 ≤ _; first | omega | (simp only [List.length_take, List.length_append, List.length_drop, List.length_cons, List.length_nil, List.length_map]; omega)) (by first | omega | (simp only [List.length_take, List.length_append, List.length_drop, List.length_cons, List.length_nil, List.length_map]; omega)) (by first | rfl | (simp; done) | (simp; omega)) (by decide) ?_); clear hS hR hR0; intro aa ww r96 c96 hS hR
      refine lnext (hR.sub exQ) ?_; intro hR0
      refine lA 7 rfl (by kernel_rfl) (by kernel_rfl) (by kernel_rfl) (by kernel_rfl) (fun _ _ _ h => h) hS hR0 (Yld.to (u := .pointer (some ⟨bb16, to, none⟩)) (Yld.indexArr hS rfl rfl Try.underlying39 info38 (by omega) (by omega)) (by have h1 : (Try.t38).size = 1 := rfl; rw [h1]; congr 3 <;> omega)) (by decide) ?_; clear hS; intro aa hS
      refine lOne (i := 8) (by kernel_rfl) ?_
      refine dop rfl (BstoreG (ys := ys) (xs := R to ++ [hd2 f]) hS hR rfl rfl info38 rfl pkQ (by omega) rfl ?_); clear hR hR0; intro ww hR
      refine lend ?_
      replace hR := Sep.rowGSet (i := to) (ys := ys) ((hR.pk (r := rowsG _ _ _ (ys.take _ ++ _)) pkQ).pk (r := sls r96 _ _ _ _ _) pkQ) rfl (by omega)
      obtain ⟨yz, hyz⟩ : ∃ y, ys.set to ((r96, c96), R to ++ [hd2 f]) = y := ⟨_, rfl⟩
      rw [hyz] at hR
      obtain ⟨G, hG⟩ : ∃ G : Nat → List Hd, (fun j : Nat => butF ((inF T.F (j : Int)).map hd2) (hd2 f) ++ (if (to : Int) = (j : Int) then [hd2 f] else [])) = G := ⟨_, rfl⟩
      have hRZ : RowsAre 3 yz G := by
        rw [← hyz, ← hG]
        refine (hRA.set (by omega)).ext fun j hj => ?_
        by_cases e : j = to
        · subst e; rw [upd_eq, ← hRe, if_pos rfl]
        · rw [upd_ne e, ← hRe, if_neg (by omega), List.append_nil]
      refine wpAnyL_done (by kernel_rfl) ?_ _; try clear hR0
      refine hK694 _ _ ?_
      refine wp_seq_k ?_; intro K695 hK695
      refine wp_seq_k ?_; intro K696 hK696
      refine wp_region_lit ?_
      refine sA hS hR (Yld.move hS rfl) (by decide) ?_; clear hS; intro aa hS
      refine sA hS hR (Yld.loadAgg hS rfl Try.underlying29 rfl info29 (by first | exact Rds.cons (Rd.blk pkQ (by rfl)) (Rds.cons (Rd.blk pkQ (by rfl)) (Rds.nil)) | exact Rds.rec pkQ (by intro _; rfl) (by omega) | exact Rds.flat1 pkQ (by intro _; rfl) (by omega)) (by rfl)) (by decide) ?_; clear hS; intro aa hS
      refine sA hS hR (Yld.move hS rfl) (by decide) ?_; clear hS; intro aa hS
      refine sB (Bcall hS rfl Try.call15 (TbMove_ok (n := 3) (i := to) (f := f) (by omega) hf (hR.pk (r := tableA _ b _ _ _) pkQ)) (by decide) ?_); clear hS; intro aa ww vv hS hp
      clear hR
      obtain ⟨rfl, hR⟩ := hp
      refine sA hS hR (Yld.neq hS rfl rfl) (by decide) ?_; clear hS; intro aa hS
      replace hS := hS.sayB (t := 102) false rfl (by simp)
      refine sA hS hR (Yld.move hS rfl) (by decide) ?_; clear hS; intro aa hS
      refine sAg hS hR rfl rfl (Yld.move hS rfl) (by decide) ?_; clear hS; intro aa hS
      replace hS := hS.sayB (t := 104) true rfl (by rfl)
      refine sAg hS hR rfl rfl (Yld.not hS rfl) (by decide) ?_; clear hS; intro aa hS
      refine sA hS hR (Yld.pickF hS rfl rfl) (by decide) ?_; clear hS; intro aa hS
      refine wpList_nil ?_
      refine hK696 _ _ ?_
      refine condF hS rfl ?_
      refine wp_skip ?_
      refine hK695 _ _ ?_
      refine wp_seq_k ?_; intro K697 hK697
      refine wp_seq_k ?_; intro K698 hK698
      refine wp_region_lit ?_
      refine sA hS hR (Yld.move hS rfl) (by decide) ?_; clear hS; intro aa hS
      refine wpList_nil ?_
      refine hK698 _ _ ?_
      refine wp_block ?_
      refine loopI (X := Nat) [(7, _), (10, _), (13, _), (14, _), (16, _)] (fun x => [(107, .int .i64 (x : Int))]) (fun x => []) _ (fun x => x ≤ 3) (fun x => 3 - x) 0 (Nat.zero_le _) (hS.le (Le.cons rfl (Le.nilapp (Le.cons rfl (Le.cons rfl (Le.cons rfl (Le.cons rfl (Le.cons rfl (Le.nil _))))))))) hR ?_
      clear hS hR; rintro m3 aa ww hI hS hR; dsimp only [List.cons_append, List.nil_append] at hI hS hR
      refine wp_seq_k ?_; intro K700 hK700
      refine wp_region_lit ?_
      refine sA hS hR (Yld.lss hS rfl rfl) (by decide) ?_; clear hS; intro aa hS
      refine wpList_nil ?_
      refine hK700 _ _ ?_
      refine wp_seq_k ?_; intro K701 hK701
      refine hS.splitB (t := 108) rfl ?_ ?_ <;> clear hS
      · intro hg hS
        have hRA := hRZ
        have hGl : (G m3).length ≤ 21 := by
          rw [← hG]; dsimp only; rw [List.length_append]
          have h8 : (butF ((inF T.F (m3 : Int)).map hd2) (hd2 f)).length ≤ 20 := Nat.le_trans butF_le (by rw [List.length_map]; exact Nat.le_trans inF_len hTl)
          split <;> simp only [List.length_cons, List.length_nil] <;> omega
        obtain ⟨rr, rc, hrow⟩ := hRA.at' m3 (by omega)
        have hyl := hRA.len
        have hry : yz[m3]'(by omega) = ((rr, rc), G m3) := (List.getElem?_eq_some_iff.1 hrow).2
        refine condT hS rfl ?_
        refine wp_skip ?_
        refine hK701 _ _ ?_
        refine wp_seq_k ?_; intro K702 hK702
        refine wp_block ?_
        refine wp_seq_k ?_; intro K703 hK703
        refine wp_region_lit ?_
        refine sA hS hR (Yld.move hS rfl) (by decide) ?_; clear hS; intro aa hS
        refine sA hS hR (Yld.assign hS rfl) (by decide) ?_; clear hS; intro aa hS
        refine wpList_nil ?_
        refine hK703 _ _ ?_
        refine wp_seq_k ?_; intro K704 hK704
        refine wp_region_lit ?_
        refine sA hS hR (Yld.move hS rfl) (by decide) ?_; clear hS; intro aa hS
        refine sA hS hR (Yld.move hS rfl) (by decide) ?_; clear hS; intro aa hS
        refine sB (Bcall hS rfl Try.call14 (TbIn_ok (i := (m3 : Int)) (hR.pk (r := tableA _ b _ _ _) pkQ)) (by decide) ?_); clear hS; intro aa ww vv hS hp
        clear hR
        obtain ⟨ra, ca, rfl, hR⟩ := hp
        rw [inF_move hTF hf, show butF ((inF T.F (m3 : Int)).map hd2) (hd2 f) ++ (if (to : Int) = (m3 : Int) then [hd2 f] else []) = G m3 from by rw [← hG]] at hS hR
        refine sA hS hR (Yld.assign hS rfl) (by decide) ?_; clear hS; intro aa hS
        refine wpList_nil ?_
        refine hK704 _ _ ?_
        refine wp_seq_k ?_; intro K705 hK705
        refine wp_seq_k ?_; intro K706 hK706
        refine wp_region_lit ?_
        refine sA hS hR (Yld.move hS rfl) (by decide) ?_; clear hS; intro aa hS
        refine sA hS hR (Yld.len hS rfl Try.underlying38) (by decide) ?_; clear hS; intro aa hS
        refine sA hS hR (Yld.move hS rfl) (by decide) ?_; clear hS; intro aa hS
        refine sA hS hR (Yld.to (u := .pointer (some ⟨bb16, m3 * 1, none⟩)) (Yld.indexArr hS rfl rfl Try.underlying39 info38 (by omega) (by omega)) (by have h1 : (Try.t38).size = 1 := rfl; rw [h1]; congr 3 <;> omega)) (by decide) ?_; clear hS; intro aa hS
        refine sA hS hR (Yld.load1 hS rfl Try.underlying38 rfl (Rd.flat0 (sz := 1) (k := m3) (xs := yz) (v := .slice rr (G m3).length rc) pkQ (by intro _; rfl) (by omega) (by rw [hry]; rfl))) (by decide) ?_; clear hS; intro aa hS
        refine sA hS hR (Yld.len hS rfl Try.underlying38) (by decide) ?_; clear hS; intro aa hS
        refine sA hS hR (Yld.neq hS rfl rfl) (by decide) ?_; clear hS; intro aa hS
        replace hS := hS.sayB (t := 119) false rfl (by simp)
        refine wpList_nil ?_
        refine hK706 _ _ ?_
        refine condF hS rfl ?_
        refine wp_skip ?_
        refine hK705 _ _ ?_
        refine wp_seq_k ?_; intro K707 hK707
        refine wp_region_lit ?_
        refine sA hS hR (Yld.move hS rfl) (by decide) ?_; clear hS; intro aa hS
        refine sA hS hR (Yld.len hS rfl Try.underlying38) (by decide) ?_; clear hS; intro aa hS
        refine sA hS hR (Yld.move hS rfl) (by decide) ?_; clear hS; intro aa hS
        refine wpList_nil ?_
        refine hK707 _ _ ?_
        refine wp_block ?_
        refine loopI (X := Nat) [(7, _), (10, _), (13, _), (14, _), (16, _), (20, _), (21, _), (107, _), (108, _), (109, _), (110, _), (111, _), (112, _), (113, _), (114, _), (115, _), (116, _), (117, _), (118, _), (119, _), (120, _), (121, _)] (fun x => [(122, .int .i64 (x : Int))]) (fun x => []) _ (fun x => x ≤ (G m3).length) (fun x => (G m3).length - x) 0 (Nat.zero_le _) (hS.le (Le.cons rfl (Le.nilapp (Le.cons rfl (Le.cons rfl (Le.cons rfl (Le.cons rfl (Le.cons rfl (Le.cons rfl (Le.cons rfl (Le.cons rfl (Le.cons rfl (Le.cons rfl (Le.cons rfl (Le.cons rfl (Le.cons rfl (Le.cons rfl (Le.cons rfl (Le.cons rfl (Le.cons rfl (Le.cons rfl (Le.cons rfl (Le.cons rfl (Le.cons rfl (Le.cons rfl (Le.nil _)))))))))))))))))))))))))) hR ?_
        clear hS hR; rintro i aa ww hI hS hR; dsimp only [List.cons_append, List.nil_append] at hI hS hR
        refine wp_seq_k ?_; intro K709 hK709
        refine wp_region_lit ?_
        refine sA hS hR (Yld.lss hS rfl rfl) (by decide) ?_; clear hS; intro aa hS
        refine wpList_nil ?_
        refine hK709 _ _ ?_
        refine wp_seq_k ?_; intro K710 hK710
        refine hS.splitB (t := 123) rfl ?_ ?_ <;> clear hS
        · intro hg hS
          have hil : i < (G m3).length := by omega
          obtain ⟨x0, hx0⟩ : ∃ y : Hd, (G m3)[i] = y := ⟨_, rfl⟩
          refine condT hS rfl ?_
          refine wp_skip ?_
          refine hK710 _ _ ?_
          refine wp_seq_k ?_; intro K711 hK711
          refine wp_block ?_
          refine wp_seq_k ?_; intro K712 hK712
          refine wp_region_lit ?_
          refine sA hS hR (Yld.move hS rfl) (by decide) ?_; clear hS; intro aa hS
          refine sA hS hR (Yld.assign hS rfl) (by decide) ?_; clear hS; intro aa hS
          refine wpList_nil ?_
          refine hK712 _ _ ?_
          refine wp_seq_k ?_; intro K713 hK713
          refine drawn (by kernel_rfl) hR Ex.refl ?_; clear hR; intro ww hR hR0
          refine dA 0 rfl (by kernel_rfl) (by kernel_rfl) (by kernel_rfl) (fun _ _ _ h => h) hS hR0 (Yld.move hS rfl) (by decide) ?_; clear hS; intro aa hS
          refine dA 1 rfl (by kernel_rfl) (by kernel_rfl) (by kernel_rfl) (fun _ _ _ h => h) hS hR0 (Yld.move hS rfl) (by decide) ?_; clear hS; intro aa hS
          refine dA 2 rfl (by kernel_rfl) (by kernel_rfl) (by kernel_rfl) (fun _ _ _ h => h) hS hR0 ((by first | exact Yld.indexL (sz := 2) (i) hS rfl rfl Try.underlying38 info29 pkQ rfl (by first | rfl | omega) (by omega) | exact Yld.indexB (sz := 2) (i) hS rfl rfl Try.underlying38 info29 rfl (by first | rfl | omega) (by omega))) (by decide) ?_; clear hS; intro aa hS
          refine dA 3 rfl (by kernel_rfl) (by kernel_rfl) (by kernel_rfl) (fun _ _ _ h => h) hS hR0 (Yld.loadAgg (vs := e2 x0) hS rfl Try.underlying29 rfl info29 (hx0 ▸ Rds.rec (enc := e2) (xs := G m3) (k := i) pkQ (by intro _; rfl) hil) (by rfl)) (by decide) ?_; clear hS; intro aa hS
          refine dA 4 rfl (by kernel_rfl) (by kernel_rfl) (by kernel_rfl) (fun _ _ _ h => h) hS hR0 (Yld.move hS rfl) (by decide) ?_; clear hS; intro aa hS
          refine dA 5 rfl (by kernel_rfl) (by kernel_rfl) (by kernel_rfl) (fun _ _ _ h => h) hS hR0 (Yld.to (u := .pointer (some ⟨bb16, m3 * 1, none⟩)) (Yld.indexArr hS rfl rfl Try.underlying39 info38 (by omega) (by omega)) (by have h1 : (Try.t38).size = 1 := rfl; rw [h1]; congr 3 <;> omega)) (by decide) ?_; clear hS; intro aa hS
          refine dA 6 rfl (by kernel_rfl) (by kernel_rfl) (by kernel_rfl) (fun _ _ _ h => h) hS hR0 (Yld.load1 hS rfl Try.underlying38 rfl (Rd.flat0 (sz := 1) (k := m3) (xs := yz) (v := .slice rr (G m3).length rc) pkQ (by intro _; rfl) (by omega) (by rw [hry]; rfl))) (by decide) ?_; clear hS; intro aa hS
          refine dA 7 rfl (by kernel_rfl) (by kernel_rfl) (by kernel_rfl) (fun _ _ _ h => h) hS hR0 (Yld.move hS rfl) (by decide) ?_; clear hS; intro aa hS
          refine dA 8 rfl (by kernel_rfl) (by kernel_rfl) (by kernel_rfl) (fun _ _ _ h => h) hS hR0 (Yld.monoL (fun w hw => (hw.pk (r := rowsG _ _ _ yz) pkQ).rowGAt hrow) (Yld.indexL (sz := 2) (i) hS rfl rfl Try.underlying38 info29 .here rfl (by first | rfl | omega) (by omega))) (by decide) ?_; clear hS; intro aa hS
          refine dA 9 rfl (by kernel_rfl) (by kernel_rfl) (by kernel_rfl) (fun _ _ _ h => h) hS hR0 (Yld.loadAgg (vs := e2 x0) hS rfl Try.underlying29 rfl info29 (hx0 ▸ Rds.rowG (enc := e2) (ys := yz) (y := ((rr, rc), G m3)) (k := i) pkQ (by intro _; rfl) hrow hil) (by rfl)) (by decide) ?_; clear hS; intro aa hS
          refine dA 10 rfl (by kernel_rfl) (by kernel_rfl) (by kernel_rfl) (fun _ _ _ h => h) hS hR0 (Yld.binRun hS rfl rfl (neq29 _ _ _ _ _ _)) (by decide) ?_; clear hS; intro aa hS
          replace hS := hS.sayB (t := 135) false rfl (by simp)
          refine wpAnyH_done (by kernel_rfl) ?_ _; clear hR0
          refine hK713 _ _ ?_
          refine condF hS rfl ?_
          refine wp_skip ?_
          refine hK711 _ _ ?_
          refine wp_region_lit ?_
          refine sA hS hR ((by first | exact Yld.add64 hS rfl rfl (by omega) | exact Yld.add hS rfl rfl)) (by decide) ?_; clear hS; intro aa hS
          refine sA hS hR (Yld.move hS rfl) (by decide) ?_; clear hS; intro aa hS
          refine wpList_nil ?_
          
          refine ⟨i + 1, ?_, ?_, hS.le (Le.cons rfl (Le.nilapp (Le.cons rfl (Le.cons rfl (Le.cons rfl (Le.cons rfl (Le.cons rfl (Le.cons rfl (Le.cons rfl (Le.cons rfl (Le.cons rfl (Le.cons rfl (Le.cons rfl (Le.cons rfl (Le.cons rfl (Le.cons rfl (Le.cons rfl (Le.cons rfl (Le.cons rfl (Le.cons rfl (Le.cons rfl (Le.cons rfl (Le.cons rfl (Le.cons rfl (Le.nil _))))))))))))))))))))))))), hR.sub (Ex.nilapp exQ)⟩
          · omega
          · omega
        · intro hg hS
          refine condF hS rfl ?_
          refine wp_exit ?_
          refine hK702 _ _ ?_
          refine wp_region_lit ?_
          refine sA hS hR ((by first | exact Yld.add64 hS rfl rfl (by omega) | exact Yld.add hS rfl rfl)) (by decide) ?_; clear hS; intro aa hS
          refine sA hS hR (Yld.move hS rfl) (by decide) ?_; clear hS; intro aa hS
          refine wpList_nil ?_
          
          refine ⟨m3 + 1, ?_, ?_, hS.le (Le.cons rfl (Le.nilapp (Le.cons rfl (Le.cons rfl (Le.cons rfl (Le.cons rfl (Le.cons rfl (Le.nil _)))))))), hR.sub (Ex.nilapp exQ)⟩
          · omega
          · omega
      · intro hg hS
        refine condF hS rfl ?_
        refine wp_exit ?_
        refine hK697 _ _ ?_
        refine wp_seq_k ?_; intro K714 hK714
        refine wp_seq_k ?_; intro K715 hK715
        refine wp_region_lit ?_
        refine sA hS hR (Yld.move hS rfl) (by decide) ?_; clear hS; intro aa hS
        refine wpList_nil ?_
        refine hK715 _ _ ?_
        refine wp_block ?_
        replace hR := hR.pk (r := tableA tt b 20 3 (T.move f to)) pkQ
        refine loopI (X := Nat × Tb × Fl) [(7, _), (10, _), (13, _), (14, _)] (fun x => [(138, .int .i64 (x.1 : Int))]) (fun x => [tableA tt b 20 3 x.2.1]) _ (fun x => x.1 ≤ 3 ∧ TF 20 3 x.2.1 ∧ x.2.2 ∈ x.2.1.F ∧ x.2.2.s = f.s ∧ x.2.2.u = f.u ∧ x.2.2.i = (to + x.1) % 3 ∧ ∃ M, (inF x.2.1.F (((to + x.1) % 3 : Nat) : Int)).map hd2 = M ++ [hd2 f]) (fun x => 3 - x.1) (0, T.move f to, ({ f with i := to } : Fl)) ⟨Nat.zero_le _, hTF.move hf (by omega), move_mem, rfl, rfl, by dsimp only; omega, _, by rw [show (to + 0) % 3 = to from by omega, inF_move hTF hf, if_pos rfl]⟩ (hS.le (Le.cons rfl (Le.nilapp (Le.cons rfl (Le.cons rfl (Le.cons rfl (Le.cons rfl (Le.nil _)))))))) hR ?_
        clear hS hR; rintro ⟨m3, T2, f2⟩ aa ww hI hS hR; dsimp only [List.cons_append, List.nil_append] at hI hS hR
        refine wp_seq_k ?_; intro K717 hK717
        refine wp_region_lit ?_
        refine sA hS hR (Yld.lss hS rfl rfl) (by decide) ?_; clear hS; intro aa hS
        refine wpList_nil ?_
        refine hK717 _ _ ?_
        refine wp_seq_k ?_; intro K718 hK718
        refine hS.splitB (t := 139) rfl ?_ ?_ <;> clear hS
        · intro hg hS
          obtain ⟨hT2, hf2, hs2, hu2, hi2, M, hM⟩ := hI.2
          have hTl2 := hT2.len
          refine condT hS rfl ?_
          refine wp_skip ?_
          refine hK718 _ _ ?_
          refine wp_seq_k ?_; intro K719 hK719
          refine wp_block ?_
          refine wp_seq_k ?_; intro K720 hK720
          refine wp_region_lit ?_
          refine sA hS hR (Yld.move hS rfl) (by decide) ?_; clear hS; intro aa hS
          refine sA hS hR (Yld.assign hS rfl) (by decide) ?_; clear hS; intro aa hS
          refine wpList_nil ?_
          refine hK720 _ _ ?_
          refine wp_seq_k ?_; intro K721 hK721
          refine wp_region_lit ?_
          refine sA hS hR (Yld.move hS rfl) (by decide) ?_; clear hS; intro aa hS
          refine sA hS hR (Yld.loadAgg hS rfl Try.underlying29 rfl info29 (by first | exact Rds.cons (Rd.blk pkQ (by rfl)) (Rds.cons (Rd.blk pkQ (by rfl)) (Rds.nil)) | exact Rds.rec pkQ (by intro _; rfl) (by omega) | exact Rds.flat1 pkQ (by intro _; rfl) (by omega)) (by rfl)) (by decide) ?_; clear hS; intro aa hS
          replace hS := hS.say (t := 142) (vH f2.s f2.u) rfl (by rw [hs2, hu2])
          refine sA hS hR (Yld.move hS rfl) (by decide) ?_; clear hS; intro aa hS
          refine sA hS hR ((by first | exact Yld.add64 hS rfl rfl (by omega) | exact Yld.add hS rfl rfl)) (by decide) ?_; clear hS; intro aa hS
          refine sA hS hR (Yld.move hS rfl) (by decide) ?_; clear hS; intro aa hS
          refine sA hS hR ((by first | exact Yld.add64 hS rfl rfl (by omega) | exact Yld.add hS rfl rfl)) (by decide) ?_; clear hS; intro aa hS
          refine sA hS hR ((by first | exact Yld.rem64 hS rfl rfl (by omega) | exact Yld.rem hS rfl rfl (by omega))) (by decide) ?_; clear hS; intro aa hS
          replace hS := hS.say (t := 147) (.int .i64 (((to + 1 + m3) % 3 : Nat) : Int)) rfl (by congr 1 <;> omega)
          refine sB (Bcall hS rfl Try.call15 (TbMove_ok (n := 3) (i := (to + 1 + m3) % 3) (f := f2) (by omega) hf2 (hR.pk (r := tableA _ b _ _ _) pkQ)) (by decide) ?_); clear hS; intro aa ww vv hS hp
          clear hR
          obtain ⟨rfl, hR⟩ := hp
          refine sA hS hR (Yld.neq hS rfl rfl) (by decide) ?_; clear hS; intro aa hS
          replace hS := hS.sayB (t := 149) false rfl (by simp)
          refine wpList_nil ?_
          refine hK721 _ _ ?_
          refine condF hS rfl ?_
          refine wp_skip ?_
          refine hK719 _ _ ?_
          refine wp_region_lit ?_
          refine sA hS hR ((by first | exact Yld.add64 hS rfl rfl (by omega) | exact Yld.add hS rfl rfl)) (by decide) ?_; clear hS; intro aa hS
          refine sA hS hR (Yld.move hS rfl) (by decide) ?_; clear hS; intro aa hS
          refine wpList_nil ?_
          
          refine ⟨(m3 + 1, _, ({ f2 with i := (to + 1 + m3) % 3 } : Fl)), ?_, ?_, hS.le (Le.cons rfl (Le.nilapp (Le.cons rfl (Le.cons rfl (Le.cons rfl (Le.cons rfl (Le.nil _))))))), hR.sub (Ex.take pkQ (Ex.nilapp exQ))⟩
          · exact ⟨by dsimp only; omega, hT2.move hf2 (by omega), move_mem, hs2, hu2, by dsimp only; congr 1; omega, _, by rw [show (to + (m3 + 1)) % 3 = (to + 1 + m3) % 3 from by congr 1; omega, inF_move hT2 hf2, if_pos rfl, show hd2 f2 = hd2 f from by rw [hd2, hs2, hu2]]⟩
          · dsimp only; omega
        · intro hg hS
          obtain rfl : m3 = 3 := by omega
          obtain ⟨hT2, hf2, hs2, hu2, hi2, M, hM⟩ := hI.2
          rw [show (to + 3) % 3 = to from by omega] at hi2 hM
          obtain ⟨MM, hMM⟩ : ∃ y, M ++ [hd2 f] = y := ⟨_, rfl⟩
          have hMll : MM.length = M.length + 1 := by rw [← hMM]; simp
          have hMl : M.length < MM.length := by omega
          have hMz : MM[M.length] = hd2 f := by simp [← hMM]
          rw [hMM] at hM
          have hTl2 := hT2.len
          have hMb : M.length + 1 ≤ 20 := by
            have h8 := congrArg List.length hM
            rw [List.length_map, hMll] at h8
            have := inF_len (F := T2.F) (i := ((to : Nat) : Int))
            omega
          refine condF hS rfl ?_
          refine wp_exit ?_
          refine hK714 _ _ ?_
          refine wp_seq_k ?_; intro K722 hK722
          refine wp_region_lit ?_
          refine sA hS hR (Yld.move hS rfl) (by decide) ?_; clear hS; intro aa hS
          refine sA hS hR (Yld.loadAgg hS rfl Try.underlying29 rfl info29 (by first | exact Rds.cons (Rd.blk pkQ (by rfl)) (Rds.cons (Rd.blk pkQ (by rfl)) (Rds.nil)) | exact Rds.rec pkQ (by intro _; rfl) (by omega) | exact Rds.flat1 pkQ (by intro _; rfl) (by omega)) (by rfl)) (by decide) ?_; clear hS; intro aa hS
          replace hS := hS.say (t := 153) (vH f2.s f2.u) rfl (by rw [hs2, hu2])
          refine sB (Bcall hS rfl Try.call13 (TbList_ok hf2 (hR.pk (r := tableA _ b _ _ _) pkQ)) (by decide) ?_); clear hS; intro aa ww vv hS hp
          clear hR
          obtain ⟨rfl, hR⟩ := hp
          refine sA hS hR (Yld.move hS rfl) (by decide) ?_; clear hS; intro aa hS
          refine sA hS hR (Yld.extract hS rfl rfl) (by decide) ?_; clear hS; intro aa hS
          refine sA hS hR (Yld.extract hS rfl rfl) (by decide) ?_; clear hS; intro aa hS
          refine sA hS hR (Yld.assign hS rfl) (by decide) ?_; clear hS; intro aa hS
          refine sA hS hR (Yld.assign hS rfl) (by decide) ?_; clear hS; intro aa hS
          refine wpList_nil ?_
          refine hK722 _ _ ?_
          refine wp_seq_k ?_; intro K723 hK723
          refine wp_region_lit ?_
          refine sA hS hR (Yld.move hS rfl) (by decide) ?_; clear hS; intro aa hS
          refine sA hS hR (Yld.move hS rfl) (by decide) ?_; clear hS; intro aa hS
          refine sB (Bcall hS rfl Try.call14 (TbIn_ok (i := (to : Int)) (hR.pk (r := tableA _ b _ _ _) pkQ)) (by decide) ?_); clear hS; intro aa ww vv hS hp
          clear hR
          obtain ⟨rz, cz, rfl, hR⟩ := hp
          rw [hM] at hS hR
          refine sA hS hR (Yld.assign hS rfl) (by decide) ?_; clear hS; intro aa hS
          refine wpList_nil ?_
          refine hK723 _ _ ?_
          refine wp_seq_k ?_; intro K724 hK724
          refine drawn (by kernel_rfl) hR Ex.refl ?_; clear hR; intro ww hR hR0
          refine dA 0 rfl (by kernel_rfl) (by kernel_rfl) (by kernel_rfl) (fun _ _ _ h => h) hS hR0 (Yld.move hS rfl) (by decide) ?_; clear hS; intro aa hS
          refine dA 1 rfl (by kernel_rfl) (by kernel_rfl) (by kernel_rfl) (fun _ _ _ h => h) hS hR0 (Yld.move hS rfl) (by decide) ?_; clear hS; intro aa hS
          refine dA 2 rfl (by kernel_rfl) (by kernel_rfl) (by kernel_rfl) (fun _ _ _ h => h) hS hR0 (Yld.eql hS rfl rfl) (by decide) ?_; clear hS; intro aa hS
          replace hS := hS.sayB (t := 162) true rfl (by exact decide_eq_true (by omega))
          refine dA 3 rfl (by kernel_rfl) (by kernel_rfl) (by kernel_rfl) (fun _ _ _ h => h) hS hR0 (Yld.move hS rfl) (by decide) ?_; clear hS; intro aa hS
          refine dAg 4 rfl (by kernel_rfl) (by kernel_rfl) (by kernel_rfl) (fun _ _ _ h => h) hS rfl rfl hR0 (Yld.move hS rfl) (by decide) ?_; clear hS; intro aa hS
          refine dAg 5 rfl (by kernel_rfl) (by kernel_rfl) (by kernel_rfl) (fun _ _ _ h => h) hS rfl rfl hR0 (Yld.len hS rfl Try.underlying38) (by decide) ?_; clear hS; intro aa hS
          refine dAg 6 rfl (by kernel_rfl) (by kernel_rfl) (by kernel_rfl) (fun _ _ _ h => h) hS rfl rfl hR0 (Yld.gtr hS rfl rfl) (by decide) ?_; clear hS; intro aa hS
          replace hS := hS.sayB (t := 166) true rfl (by exact decide_eq_true (by omega))
          refine dA 7 rfl (by kernel_rfl) (by kernel_rfl) (by kernel_rfl) (fun _ _ _ h => h) hS hR0 (Yld.pickT hS rfl rfl) (by decide) ?_; clear hS; intro aa hS
          refine dA 8 rfl (by kernel_rfl) (by kernel_rfl) (by kernel_rfl) (fun _ _ _ h => h) hS hR0 (Yld.move hS rfl) (by decide) ?_; clear hS; intro aa hS
          refine dAg 9 rfl (by kernel_rfl) (by kernel_rfl) (by kernel_rfl) (fun _ _ _ h => h) hS rfl rfl hR0 (Yld.move hS rfl) (by decide) ?_; clear hS; intro aa hS
          refine dAg 10 rfl (by kernel_rfl) (by kernel_rfl) (by kernel_rfl) (fun _ _ _ h => h) hS rfl rfl hR0 (Yld.move hS rfl) (by decide) ?_; clear hS; intro aa hS
          refine dAg 11 rfl (by kernel_rfl) (by kernel_rfl) (by kernel_rfl) (fun _ _ _ h => h) hS rfl rfl hR0 (Yld.len hS rfl Try.underlying38) (by decide) ?_; clear hS; intro aa hS
          refine dAg 12 rfl (by kernel_rfl) (by kernel_rfl) (by kernel_rfl) (fun _ _ _ h => h) hS rfl rfl hR0 ((by first | exact Yld.sub64 hS rfl rfl (by omega) | exact Yld.sub hS rfl rfl)) (by decide) ?_; clear hS; intro aa hS
          refine dAg 13 rfl (by kernel_rfl) (by kernel_rfl) (by kernel_rfl) (fun _ _ _ h => h) hS rfl rfl hR0 ((by first | exact Yld.indexL (sz := 2) (M.length) hS rfl rfl Try.underlying38 info29 pkQ rfl (by first | rfl | omega) (by omega) | exact Yld.indexB (sz := 2) (M.length) hS rfl rfl Try.underlying38 info29 rfl (by first | rfl | omega) (by omega))) (by decide) ?_; clear hS; intro aa hS
          refine dAg 14 rfl (by kernel_rfl) (by kernel_rfl) (by kernel_rfl) (fun _ _ _ h => h) hS rfl rfl hR0 (Yld.loadAgg (vs := e2 (hd2 f)) hS rfl Try.underlying29 rfl info29 (hMz ▸ Rds.rec (enc := e2) (xs := MM) (k := M.length) pkQ (by intro _; rfl) hMl) (by rfl)) (by decide) ?_; clear hS; intro aa hS
          refine dAg 15 rfl (by kernel_rfl) (by kernel_rfl) (by kernel_rfl) (fun _ _ _ h => h) hS rfl rfl hR0 (Yld.loadAgg hS rfl Try.underlying29 rfl info29 (by first | exact Rds.cons (Rd.blk pkQ (by rfl)) (Rds.cons (Rd.blk pkQ (by rfl)) (Rds.nil)) | exact Rds.rec pkQ (by intro _; rfl) (by omega) | exact Rds.flat1 pkQ (by intro _; rfl) (by omega)) (by rfl)) (by decide) ?_; clear hS; intro aa hS
          refine dAg 16 rfl (by kernel_rfl) (by kernel_rfl) (by kernel_rfl) (fun _ _ _ h => h) hS rfl rfl hR0 (Yld.binRun hS rfl rfl (eql29 _ _ _ _ _ _)) (by decide) ?_; clear hS; intro aa hS
          replace hS := hS.sayB (t := 176) true rfl (by simp)
          refine dA 17 rfl (by kernel_rfl) (by kernel_rfl) (by kernel_rfl) (fun _ _ _ h => h) hS hR0 (Yld.pickT hS rfl rfl) (by decide) ?_; clear hS; intro aa hS
          refine dA 18 rfl (by kernel_rfl) (by kernel_rfl) (by kernel_rfl) (fun _ _ _ h => h) hS hR0 (Yld.move hS rfl) (by decide) ?_; clear hS; intro aa hS
          refine dAg 19 rfl (by kernel_rfl) (by kernel_rfl) (by kernel_rfl) (fun _ _ _ h => h) hS rfl rfl hR0 (Yld.move hS rfl) (by decide) ?_; clear hS; intro aa hS
          refine dAg 20 rfl (by kernel_rfl) (by kernel_rfl) (by kernel_rfl) (fun _ _ _ h => h) hS rfl rfl hR0 (Yld.geq hS rfl rfl) (by decide) ?_; clear hS; intro aa hS
          replace hS := hS.sayB (t := 180) true rfl (by exact decide_eq_true (by omega))
          refine dA 21 rfl (by kernel_rfl) (by kernel_rfl) (by kernel_rfl) (fun _ _ _ h => h) hS hR0 (Yld.pickT hS rfl rfl) (by decide) ?_; clear hS; intro aa hS
          refine dA 22 rfl (by kernel_rfl) (by kernel_rfl) (by kernel_rfl) (fun _ _ _ h => h) hS hR0 (Yld.move hS rfl) (by decide) ?_; clear hS; intro aa hS
          refine dAg 23 rfl (by kernel_rfl) (by kernel_rfl) (by kernel_rfl) (fun _ _ _ h => h) hS rfl rfl hR0 (Yld.move hS rfl) (by decide) ?_; clear hS; intro aa hS
          refine dAg 24 rfl (by kernel_rfl) (by kernel_rfl) (by kernel_rfl) (fun _ _ _ h => h) hS rfl rfl hR0 (Yld.lss hS rfl rfl) (by decide) ?_; clear hS; intro aa hS
          replace hS := hS.sayB (t := 184) true rfl (by exact decide_eq_true (by omega))
          refine dA 25 rfl (by kernel_rfl) (by kernel_rfl) (by kernel_rfl) (fun _ _ _ h => h) hS hR0 (Yld.pickT hS rfl rfl) (by decide) ?_; clear hS; intro aa hS
          refine dA 26 rfl (by kernel_rfl) (by kernel_rfl) (by kernel_rfl) (fun _ _ _ h => h) hS hR0 (Yld.move hS rfl) (by decide) ?_; clear hS; intro aa hS
          refine dOne (i := 27) (by kernel_rfl) ?_
          refine dopg rfl hS rfl rfl (Bcall hS rfl Try.call11 (awake16_ok hR) (by decide) ?_); clear hS; intro aa ww vv hS hp
          clear hR hR0
          obtain ⟨rfl, hR⟩ := hp
          refine dnext (hR.sub exQ) ?_; intro hR0
          refine dA 28 rfl (by kernel_rfl) (by kernel_rfl) (by kernel_rfl) (fun _ _ _ h => h) hS hR0 (Yld.pickT hS rfl rfl) (by decide) ?_; clear hS; intro aa hS
          refine dA 29 rfl (by kernel_rfl) (by kernel_rfl) (by kernel_rfl) (fun _ _ _ h => h) hS hR0 (Yld.assign hS rfl) (by decide) ?_; clear hS; intro aa hS
          refine wpAnyH_done (by kernel_rfl) ?_ _; clear hR0
          refine hK724 _ _ ?_
          refine wp_ret ?_
          repeat (first | with_reducible refine thenR ?_ | with_reducible refine blockR ?_ | with_reducible refine scopeR ?_)
          refine ret1 (fn := Try.f3) (e := .ret) (.inl rfl) Try.results3 hS hR ⟨_, (.tmp rfl), ?_⟩
          exact ⟨rfl, (hR.sub exQ)⟩
end Go.Proofs.Ythhndmlfgjcgpaa.Sx
