/-
  
-/
import Derived.Test.YtmcfmhiadlkglaaRxD
import Derived.Test.YtmcfmhiadlkglaaPa
namespace Go.Proofs.Ytmcfmhiadlkglaa.Sx
open Go
set_option linter.unusedVariables false
set_option linter.unusedSimpArgs false

theorem info60 : Try.prog.info? 60 = some Try.t60 := by kernel_rfl
theorem bld58_0 (x0 : Int) (w : World) : (Instr.build 58 [(0, .int .i64 x0)].toArray).run Try.prog w = .ok (.agg [.int .i64 x0, .slice none 0 0, .slice none 0 0].toArray) w := by kernel_rfl

set_option maxHeartbeats 4000000 in
set_option maxRecDepth 20000 in
theorem TrieTells_no {W : World} {q : Option Addr} {n c : Nat} {z0 z2 : Int} {xs : List (List Int)} {l : List HP} {w : World} (A1 : ArgS W [.u8, .u8, .u32, .u32, .u16, .u16, .i64] q n c xs) (hR : Sep (old W :: l) w) (hn : ¬ (1 ≤ z0 ∧ z0 ≤ 8192)) : CallR Try.prog 7 [.int .i64 z0, .slice q n c, .int .i64 z2] w (fun v w' => v = .bool true ∧ Sep (old W :: l) w') := by
  refine enter Try.func7 rfl Try.ntmps7 (Nat.le_of_ble_eq_true rfl) ?_; intro aa hS
  refine wp_seq_k ?_; intro K497 hK497
  refine wp_region_lit ?_
  refine sA hS hR (Yld.assign hS rfl) (by decide) ?_; clear hS; intro aa hS
  refine wpList_nil ?_
  refine hK497 _ _ ?_
  refine wp_seq_k ?_; intro K498 hK498
  refine wp_region_lit ?_
  refine sA hS hR (Yld.move hS rfl) (by decide) ?_; clear hS; intro aa hS
  refine sB (Bcall hS rfl Try.call11 (TNew_bad hR (by omega)) (by decide) ?_); clear hS; intro aa ww vv hS hp
  clear hR
  obtain ⟨rfl, hR⟩ := hp
  refine sA hS hR (Yld.move hS rfl) (by decide) ?_; clear hS; intro aa hS
  refine sA hS hR (Yld.extract hS rfl rfl) (by decide) ?_; clear hS; intro aa hS
  refine sA hS hR (Yld.extract hS rfl rfl) (by decide) ?_; clear hS; intro aa hS
  refine sA hS hR (Yld.assign hS rfl) (by decide) ?_; clear hS; intro aa hS
  refine sA hS hR (Yld.assign hS rfl) (by decide) ?_; clear hS; intro aa hS
  refine wpList_nil ?_
  refine hK498 _ _ ?_
  refine wp_seq_k ?_; intro K499 hK499
  refine wp_seq_k ?_; intro K500 hK500
  refine wp_region_lit ?_
  refine sA hS hR (Yld.move hS rfl) (by decide) ?_; clear hS; intro aa hS
  refine sA hS hR (Yld.eql hS rfl rfl) (by decide) ?_; clear hS; intro aa hS
  replace hS := hS.sayB (t := 18) false rfl (by simp)
  refine sA hS hR (Yld.move hS rfl) (by decide) ?_; clear hS; intro aa hS
  refine sB (Bcall hS rfl Try.call25 (RRight_ok hR) (by decide) ?_); clear hS; intro aa ww vv hS hp
  clear hR
  obtain ⟨rfl, hR⟩ := hp
  refine sA hS hR (Yld.neqB hS rfl rfl Try.underlying4) (by decide) ?_; clear hS; intro aa hS
  replace hS := hS.sayB (t := 21) false rfl (by rw [decide_eq_false hn]; rfl)
  refine sA hS hR (Yld.move hS rfl) (by decide) ?_; clear hS; intro aa hS
  refine sAg hS hR rfl rfl (Yld.move hS rfl) (by decide) ?_; clear hS; intro aa hS
  refine sAg hS hR rfl rfl (Yld.neq hS rfl rfl) (by decide) ?_; clear hS; intro aa hS
  replace hS := hS.sayB (t := 24) true rfl (by simp)
  refine sAg hS hR rfl rfl (Yld.move hS rfl) (by decide) ?_; clear hS; intro aa hS
  refine sAg hS hR rfl rfl (Yld.move hS rfl) (by decide) ?_; clear hS; intro aa hS
  refine sAg hS hR rfl rfl (Yld.neq hS rfl rfl) (by decide) ?_; clear hS; intro aa hS
  replace hS := hS.sayB (t := 27) false rfl (by simp)
  refine sAg hS hR rfl rfl (Yld.move hS rfl) (by decide) ?_; clear hS; intro aa hS
  refine sAg hS hR rfl rfl (Yld.move hS rfl) (by decide) ?_; clear hS; intro aa hS
  refine sAg hS hR rfl rfl (Yld.neqNil hS rfl rfl Try.underlying26) (by decide) ?_; clear hS; intro aa hS
  replace hS := hS.sayB (t := 30) false rfl (by rfl)
  refine sAg hS hR rfl rfl (Yld.pickF hS rfl rfl) (by decide) ?_; clear hS; intro aa hS
  refine sAg hS hR rfl rfl (Yld.pickT hS rfl rfl) (by decide) ?_; clear hS; intro aa hS
  refine sA hS hR (Yld.pickF hS rfl rfl) (by decide) ?_; clear hS; intro aa hS
  refine wpList_nil ?_
  refine hK500 _ _ ?_
  refine condF hS rfl ?_
  refine wp_skip ?_
  refine hK499 _ _ ?_
  refine wp_seq_k ?_; intro K501 hK501
  refine wp_seq_k ?_; intro K502 hK502
  refine wp_region_lit ?_
  refine sA hS hR (Yld.move hS rfl) (by decide) ?_; clear hS; intro aa hS
  refine sA hS hR (Yld.neq hS rfl rfl) (by decide) ?_; clear hS; intro aa hS
  replace hS := hS.sayB (t := 35) true rfl (by simp)
  refine sA hS hR (Yld.move hS rfl) (by decide) ?_; clear hS; intro aa hS
  refine sSkip hS rfl rfl rfl (by decide) ?_; clear hS; intro aa hS
  refine sSkip hS rfl rfl rfl (by decide) ?_; clear hS; intro aa hS
  refine sSkip hS rfl rfl rfl (by decide) ?_; clear hS; intro aa hS
  refine sA hS hR (Yld.pickT hS rfl rfl) (by decide) ?_; clear hS; intro aa hS
  refine wpList_nil ?_
  refine hK502 _ _ ?_
  refine condT hS rfl ?_
  refine wp_seq_k ?_; intro K503 hK503
  refine wp_region_lit ?_
  refine sB (Bcall hS rfl Try.call17 (awake_ok hR) (by decide) ?_); clear hS; intro aa ww vv hS hp
  clear hR
  obtain ⟨rfl, hR⟩ := hp
  refine sA hS hR (Yld.assign hS rfl) (by decide) ?_; clear hS; intro aa hS
  refine wpList_nil ?_
  refine hK503 _ _ ?_
  refine wp_ret ?_
  repeat (first | with_reducible refine thenR ?_ | with_reducible refine blockR ?_ | with_reducible refine scopeR ?_)
  refine ret1 (fn := Try.f7) (e := .ret) (.inl rfl) Try.results7 hS hR ⟨_, (.tmp rfl), ?_⟩
  exact ⟨rfl, (hR.sub exQ)⟩
set_option maxHeartbeats 4000000 in
set_option maxRecDepth 20000 in
theorem TrieTells_yes {W : World} {q : Option Addr} {n c : Nat} {z0 z2 : Int} {xs : List (List Int)} {l : List HP} {w : World} (A1 : ArgS W [.u8, .u8, .u32, .u32, .u16, .u16, .i64] q n c xs) (hR : Sep (old W :: l) w) (hn : 1 ≤ z0 ∧ z0 ≤ 8192) : CallR Try.prog 7 [.int .i64 z0, .slice q n c, .int .i64 z2] w (fun v w' => v = .bool true ∧ Sep (old W :: l) w') := by
  refine enter Try.func7 rfl Try.ntmps7 (Nat.le_of_ble_eq_true rfl) ?_; intro aa hS
  have hcap := A1.cap
  refine wp_seq_k ?_; intro K504 hK504
  refine wp_region_lit ?_
  refine sA hS hR (Yld.assign hS rfl) (by decide) ?_; clear hS; intro aa hS
  refine wpList_nil ?_
  refine hK504 _ _ ?_
  refine wp_seq_k ?_; intro K505 hK505
  refine wp_region_lit ?_
  refine sA hS hR (Yld.move hS rfl) (by decide) ?_; clear hS; intro aa hS
  refine sB (Bcall hS rfl Try.call11 (TNew_ok (n := z0) hR hn) (by decide) ?_); clear hS; intro aa ww vv hS hp
  clear hR
  obtain ⟨b, rfl, hR⟩ := hp
  refine sA hS hR (Yld.move hS rfl) (by decide) ?_; clear hS; intro aa hS
  refine sA hS hR (Yld.extract hS rfl rfl) (by decide) ?_; clear hS; intro aa hS
  refine sA hS hR (Yld.extract hS rfl rfl) (by decide) ?_; clear hS; intro aa hS
  refine sA hS hR (Yld.assign hS rfl) (by decide) ?_; clear hS; intro aa hS
  refine sA hS hR (Yld.assign hS rfl) (by decide) ?_; clear hS; intro aa hS
  refine wpList_nil ?_
  refine hK505 _ _ ?_
  refine wp_seq_k ?_; intro K506 hK506
  refine wp_seq_k ?_; intro K507 hK507
  refine wp_region_lit ?_
  refine sA hS hR (Yld.move hS rfl) (by decide) ?_; clear hS; intro aa hS
  refine sA hS hR (Yld.eql hS rfl rfl) (by decide) ?_; clear hS; intro aa hS
  replace hS := hS.sayB (t := 18) true rfl (by simp)
  refine sA hS hR (Yld.move hS rfl) (by decide) ?_; clear hS; intro aa hS
  refine sB (Bcall hS rfl Try.call25 (RRight_ok hR) (by decide) ?_); clear hS; intro aa ww vv hS hp
  clear hR
  obtain ⟨rfl, hR⟩ := hp
  refine sA hS hR (Yld.neqB hS rfl rfl Try.underlying4) (by decide) ?_; clear hS; intro aa hS
  replace hS := hS.sayB (t := 21) false rfl (by rw [decide_eq_true hn]; rfl)
  refine sA hS hR (Yld.move hS rfl) (by decide) ?_; clear hS; intro aa hS
  refine sAg hS hR rfl rfl (Yld.move hS rfl) (by decide) ?_; clear hS; intro aa hS
  refine sAg hS hR rfl rfl (Yld.neq hS rfl rfl) (by decide) ?_; clear hS; intro aa hS
  replace hS := hS.sayB (t := 24) false rfl (by simp)
  refine sAg hS hR rfl rfl (Yld.move hS rfl) (by decide) ?_; clear hS; intro aa hS
  refine sSkip hS rfl rfl rfl (by decide) ?_; clear hS; intro aa hS
  refine sSkip hS rfl rfl rfl (by decide) ?_; clear hS; intro aa hS
  refine sSkip hS rfl rfl rfl (by decide) ?_; clear hS; intro aa hS
  refine sSkipU hS rfl rfl (by decide) ?_; clear hS; intro aa hS
  refine sSkipU hS rfl rfl (by decide) ?_; clear hS; intro aa hS
  refine sSkip hS rfl rfl rfl (by decide) ?_; clear hS; intro aa hS
  refine sAg hS hR rfl rfl (Yld.pickF hS rfl rfl) (by decide) ?_; clear hS; intro aa hS
  refine sA hS hR (Yld.pickF hS rfl rfl) (by decide) ?_; clear hS; intro aa hS
  refine wpList_nil ?_
  refine hK507 _ _ ?_
  refine condF hS rfl ?_
  refine wp_skip ?_
  refine hK506 _ _ ?_
  refine wp_seq_k ?_; intro K508 hK508
  refine wp_seq_k ?_; intro K509 hK509
  refine wp_region_lit ?_
  refine sA hS hR (Yld.move hS rfl) (by decide) ?_; clear hS; intro aa hS
  refine sA hS hR (Yld.neq hS rfl rfl) (by decide) ?_; clear hS; intro aa hS
  replace hS := hS.sayB (t := 35) false rfl (by simp)
  refine sA hS hR (Yld.move hS rfl) (by decide) ?_; clear hS; intro aa hS
  refine sAg hS hR rfl rfl (Yld.move hS rfl) (by decide) ?_; clear hS; intro aa hS
  refine sAg hS hR rfl rfl (Yld.len hS rfl Try.underlying53) (by decide) ?_; clear hS; intro aa hS
  refine sAg hS hR rfl rfl (Yld.gtr hS rfl rfl) (by decide) ?_; clear hS; intro aa hS
  refine sA hS hR (Yld.pickF hS rfl rfl) (by decide) ?_; clear hS; intro aa hS
  refine wpList_nil ?_
  refine hK509 _ _ ?_
  refine hS.splitB (t := 40) rfl ?_ ?_ <;> clear hS
  · intro hg hS
    refine condT hS rfl ?_
    refine wp_seq_k ?_; intro K510 hK510
    refine wp_region_lit ?_
    refine sB (Bcall hS rfl Try.call17 (awake_ok hR) (by decide) ?_); clear hS; intro aa ww vv hS hp
    clear hR
    obtain ⟨rfl, hR⟩ := hp
    refine sA hS hR (Yld.assign hS rfl) (by decide) ?_; clear hS; intro aa hS
    refine wpList_nil ?_
    refine hK510 _ _ ?_
    refine wp_ret ?_
    repeat (first | with_reducible refine thenR ?_ | with_reducible refine blockR ?_ | with_reducible refine scopeR ?_)
    refine ret1 (fn := Try.f7) (e := .ret) (.inl rfl) Try.results7 hS hR ⟨_, (.tmp rfl), ?_⟩
    exact ⟨rfl, (hR.sub exQ)⟩
  · intro hg hS
    refine condF hS rfl ?_
    refine wp_skip ?_
    refine hK508 _ _ ?_
    refine wp_seq_k ?_; intro K511 hK511
    refine wp_seq_k ?_; intro K512 hK512
    refine wp_region_lit ?_
    refine sA hS hR (Yld.move hS rfl) (by decide) ?_; clear hS; intro aa hS
    refine sA hS hR (Yld.eqlNil hS rfl rfl Try.underlying26) (by decide) ?_; clear hS; intro aa hS
    replace hS := hS.sayB (t := 43) false rfl (by rfl)
    refine wpList_nil ?_
    refine hK512 _ _ ?_
    refine condF hS rfl ?_
    refine wp_skip ?_
    refine hK511 _ _ ?_
    refine wp_seq_k ?_; intro K513 hK513
    refine wp_region_lit ?_
    refine sA hS hR (Yld.move hS rfl) (by decide) ?_; clear hS; intro aa hS
    refine sA hS hR (Yld.build hS rfl (bld58_0 _)) (by decide) ?_; clear hS; intro aa hS
    refine sB (Bbox hS hR rfl (by rfl) (by decide) ?_); clear hS hR; intro aa ww bb46 hS hR
    replace hR := (hR.slsNil (T := 3) (sz := 1)).slsNil (T := 34) (sz := 5)
    replace hR := hR.pk (r := blk bb46 _ _) pkQ
    replace hR := Sep.rtrI (TR := 58) (TK := 34) (TI := 3) (b := bb46) (K := []) (xs := []) (ys := []) (most := z0) (r1 := none) (r2 := none) (c1 := 0) (c2 := 0) (n1 := 0) (n2 := 0) (GK.nil (by omega) (by omega)) srt_nil.symm (by rw [vals, srt_nil]; rfl) rfl rfl hR
    refine sA hS hR (Yld.assign hS rfl) (by decide) ?_; clear hS; intro aa hS
    refine wpList_nil ?_
    refine hK513 _ _ ?_
    refine wp_seq_k ?_; intro K514 hK514
    refine wp_seq_k ?_; intro K515 hK515
    refine wp_region_lit ?_
    refine sA hS hR (Yld.move hS rfl) (by decide) ?_; clear hS; intro aa hS
    refine sA hS hR (Yld.len hS rfl Try.underlying53) (by decide) ?_; clear hS; intro aa hS
    refine sA hS hR (Yld.move hS rfl) (by decide) ?_; clear hS; intro aa hS
    refine wpList_nil ?_
    refine hK515 _ _ ?_
    refine wp_block ?_
    replace hR := hR.pk (r := rtrA 58 34 3 bb46 [] z0) pkQ
    replace hR := hR.pk (r := trieA 69 79 3 b [] z0) pkQ
    refine loopI (X := Nat × List (Ky × Int)) [(2, _), (7, _), (9, _), (47, _), (48, _)] (fun x => [(49, .int .i64 (x.1 : Int))]) (fun x => [trieA 69 79 3 b x.2 z0, rtrA 58 34 3 bb46 x.2 z0]) _ (fun x => x.1 ≤ n) (fun x => n - x.1) (0, []) (Nat.zero_le _) (hS.le (Le.cons rfl (Le.nilapp (Le.cons rfl (Le.cons rfl (Le.cons rfl (Le.cons rfl (Le.cons rfl (Le.nil _))))))))) hR ?_
    clear hS hR; rintro ⟨k, K⟩ aa ww hI hS hR; dsimp only [List.cons_append, List.nil_append] at hI hS hR
    refine wp_seq_k ?_; intro K517 hK517
    refine wp_region_lit ?_
    refine sA hS hR (Yld.lss hS rfl rfl) (by decide) ?_; clear hS; intro aa hS
    refine wpList_nil ?_
    refine hK517 _ _ ?_
    refine wp_seq_k ?_; intro K518 hK518
    refine hS.splitB (t := 50) rfl ?_ ?_ <;> clear hS
    · intro hg hS
      refine condT hS rfl ?_
      refine wp_skip ?_
      refine hK518 _ _ ?_
      refine wp_seq_k ?_; intro K519 hK519
      refine wp_block ?_
      refine wp_seq_k ?_; intro K520 hK520
      refine wp_region_lit ?_
      obtain ⟨ba, ia, ns, hq, hx, hl, hw, hc⟩ := A1.at (k := k) (by omega)
      obtain ⟨s0, s1, s2, s3, s4, s5, s6, rfl⟩ := len7 hl
      subst hq
      have hs0 : 0 ≤ s0 ∧ s0 ≤ 255 := hw.1
      have hkw : WfK (s1, s2, s3, s4, s5) := ⟨hw.2.1, hw.2.2.1, hw.2.2.2.1, hw.2.2.2.2.1, hw.2.2.2.2.2.1⟩
      refine sA hS hR ((by first | exact Yld.indexL (sz := 7) _ hS rfl rfl Try.underlying53 info60 pkQ rfl rfl (by omega) | exact Yld.indexB (sz := 7) _ hS rfl rfl Try.underlying53 info60 rfl rfl (by omega) | exact Yld.indexSlice hS rfl rfl Try.underlying53 info60 (by omega) (by omega))) (by decide) ?_; clear hS; intro aa hS
      refine sA hS hR (Yld.loadAgg (vs := [.int .u8 s0, .int .u8 s1, .int .u32 s2, .int .u32 s3, .int .u16 s4, .int .u16 s5, .int .i64 s6]) hS rfl Try.underlying60 rfl info60 (Rds.at (Rds.old pkQ hc) (by rfl)) (by rfl)) (by decide) ?_; clear hS; intro aa hS
      refine sB (Balloc hS hR info60 (by rfl) (by rfl) (by decide) ?_); clear hS hR; intro aa ww bb11 hS hR
      refine sB (Bstore hS hR rfl rfl (by rfl) info60 (by rfl) pkQ (by rfl) (Nat.le_of_ble_eq_true rfl) ?_); clear hR; intro ww hR
      refine wpList_nil ?_
      refine hK520 _ _ ?_
      refine wp_seq_k ?_; intro K521 hK521
      refine drawn (by kernel_rfl) hR (Ex.of_pk2 (r := trieA _ _ _ b _ _) (s := rtrA _ _ _ bb46 _ _) pkQ pkQ) ?_; clear hR; intro ww hR hR0
      refine dA 0 rfl (by kernel_rfl) (by kernel_rfl) (by kernel_rfl) (fun _ _ _ h => h) hS hR0 (Yld.move hS rfl) (by decide) ?_; clear hS; intro aa hS
      refine dA 1 rfl (by kernel_rfl) (by kernel_rfl) (by kernel_rfl) (fun _ _ _ h => h) hS hR0 (Yld.move hS rfl) (by decide) ?_; clear hS; intro aa hS
      refine dA 2 rfl (by kernel_rfl) (by kernel_rfl) (by kernel_rfl) (fun _ _ _ h => h) hS hR0 (Yld.loadAgg hS rfl Try.underlying60 rfl info60 (by first | exact Rds.cons (Rd.blk pkQ (by rfl)) (Rds.cons (Rd.blk pkQ (by rfl)) (Rds.cons (Rd.blk pkQ (by rfl)) (Rds.cons (Rd.blk pkQ (by rfl)) (Rds.cons (Rd.blk pkQ (by rfl)) (Rds.cons (Rd.blk pkQ (by rfl)) (Rds.cons (Rd.blk pkQ (by rfl)) (Rds.nil))))))) | exact Rds.rec pkQ (by intro _; rfl) (by omega) | exact Rds.flat1 pkQ (by intro _; rfl) (by omega)) (by rfl)) (by decide) ?_; clear hS; intro aa hS
      refine dOne (i := 3) (by kernel_rfl) ?_
      refine dop rfl (Bcall hS rfl Try.call26 (act15_ok (K := K) (k := (s1, s2, s3, s4, s5)) (kd := s0) (v := s6) ((hR.pk (r := rtrA _ _ _ bb46 _ _) pkQ).pk (r := trieA _ _ _ b _ _) pkQ) hkw hs0) (by decide) ?_); clear hS; intro aa ww vv hS hp
      clear hR hR0
      obtain ⟨rfl, hR⟩ := hp
      refine dnext (hR.sub exQ) ?_; intro hR0
      refine dA 4 rfl (by kernel_rfl) (by kernel_rfl) (by kernel_rfl) (fun _ _ _ h => h) hS hR0 (Yld.not hS rfl) (by decide) ?_; clear hS; intro aa hS
      replace hS := hS.sayB (t := 57) false rfl (by rfl)
      refine dA 5 rfl (by kernel_rfl) (by kernel_rfl) (by kernel_rfl) (fun _ _ _ h => h) hS hR0 (Yld.move hS rfl) (by decide) ?_; clear hS; intro aa hS
      refine dAg 6 rfl (by kernel_rfl) (by kernel_rfl) (by kernel_rfl) (fun _ _ _ h => h) hS rfl rfl hR0 (Yld.move hS rfl) (by decide) ?_; clear hS; intro aa hS
      refine dAg 7 rfl (by kernel_rfl) (by kernel_rfl) (by kernel_rfl) (fun _ _ _ h => h) hS rfl rfl hR0 (Yld.move hS rfl) (by decide) ?_; clear hS; intro aa hS
      refine dOne (i := 8) (by kernel_rfl) ?_
      refine dopg rfl hS rfl rfl (Bcall hS rfl Try.call27 (same15_ok (K := actK K s0 (s1, s2, s3, s4, s5) s6 z0) ((hR.pk (r := rtrA _ _ _ bb46 _ _) pkQ).pk (r := trieA _ _ _ b _ _) pkQ)) (by decide) ?_); clear hS; intro aa ww vv hS hp
      clear hR hR0
      obtain ⟨rfl, hR⟩ := hp
      refine dnext (hR.sub exQ) ?_; intro hR0
      refine dAg 9 rfl (by kernel_rfl) (by kernel_rfl) (by kernel_rfl) (fun _ _ _ h => h) hS rfl rfl hR0 (Yld.not hS rfl) (by decide) ?_; clear hS; intro aa hS
      replace hS := hS.sayB (t := 62) false rfl (by rfl)
      refine dA 10 rfl (by kernel_rfl) (by kernel_rfl) (by kernel_rfl) (fun _ _ _ h => h) hS hR0 (Yld.pickF hS rfl rfl) (by decide) ?_; clear hS; intro aa hS
      refine dA 11 rfl (by kernel_rfl) (by kernel_rfl) (by kernel_rfl) (fun _ _ _ h => h) hS hR0 (Yld.move hS rfl) (by decide) ?_; clear hS; intro aa hS
      refine dAg 12 rfl (by kernel_rfl) (by kernel_rfl) (by kernel_rfl) (fun _ _ _ h => h) hS rfl rfl hR0 (Yld.fieldAddr hS rfl 1 Try.underlying60 rfl rfl info34 (by decide)) (by decide) ?_; clear hS; intro aa hS
      refine dAg 13 rfl (by kernel_rfl) (by kernel_rfl) (by kernel_rfl) (fun _ _ _ h => h) hS rfl rfl hR0 (Yld.loadAgg hS rfl Try.underlying34 rfl info34 (by first | exact Rds.cons (Rd.blk pkQ (by rfl)) (Rds.cons (Rd.blk pkQ (by rfl)) (Rds.cons (Rd.blk pkQ (by rfl)) (Rds.cons (Rd.blk pkQ (by rfl)) (Rds.cons (Rd.blk pkQ (by rfl)) (Rds.nil))))) | exact Rds.rec pkQ (by intro _; rfl) (by omega) | exact Rds.flat1 pkQ (by intro _; rfl) (by omega)) (by rfl)) (by decide) ?_; clear hS; intro aa hS
      refine dAg 14 rfl (by kernel_rfl) (by kernel_rfl) (by kernel_rfl) (fun _ _ _ h => h) hS rfl rfl hR0 (Yld.move hS rfl) (by decide) ?_; clear hS; intro aa hS
      refine dAg 17 rfl (by kernel_rfl) (by kernel_rfl) (by kernel_rfl) (fun _ _ _ h => h) hS rfl rfl hR0 (Yld.fieldAddr hS rfl 1 Try.underlying60 rfl rfl info34 (by decide)) (by decide) ?_; clear hS; intro aa hS
      refine dAg 18 rfl (by kernel_rfl) (by kernel_rfl) (by kernel_rfl) (fun _ _ _ h => h) hS rfl rfl hR0 (Yld.loadAgg hS rfl Try.underlying34 rfl info34 (by first | exact Rds.cons (Rd.blk pkQ (by rfl)) (Rds.cons (Rd.blk pkQ (by rfl)) (Rds.cons (Rd.blk pkQ (by rfl)) (Rds.cons (Rd.blk pkQ (by rfl)) (Rds.cons (Rd.blk pkQ (by rfl)) (Rds.nil))))) | exact Rds.rec pkQ (by intro _; rfl) (by omega) | exact Rds.flat1 pkQ (by intro _; rfl) (by omega)) (by rfl)) (by decide) ?_; clear hS; intro aa hS
      refine dAg 19 rfl (by kernel_rfl) (by kernel_rfl) (by kernel_rfl) (fun _ _ _ h => h) hS rfl rfl hR0 (Yld.move hS rfl) (by decide) ?_; clear hS; intro aa hS
      refine dOne (i := 15) (by kernel_rfl) ?_
      refine dopg rfl hS rfl rfl (Bcall hS rfl Try.call20 (Digit_ok (k := (s1, s2, s3, s4, s5)) hR hkw) (by decide) ?_); clear hS; intro aa ww vv hS hp
      clear hR hR0
      obtain ⟨rfl, hR⟩ := hp
      have hdb : 0 ≤ digI (s1, s2, s3, s4, s5) z2 ∧ digI (s1, s2, s3, s4, s5) z2 < 16 := by unfold digI; split; exact dig_bd _ _; omega
      refine dnext (hR.sub exQ) ?_; intro hR0
      refine dAg 16 rfl (by kernel_rfl) (by kernel_rfl) (by kernel_rfl) (fun _ _ _ h => h) hS rfl rfl hR0 ((by first | exact Yld.to (Yld.convInt hS rfl rfl Try.underlying3) (congrArg (Value.int .i64) (IntWalk.i64_in _ (by omega))) | exact Yld.convInt hS rfl rfl Try.underlying3)) (by decide) ?_; clear hS; intro aa hS
      refine dOne (i := 20) (by kernel_rfl) ?_
      refine dopg rfl hS rfl rfl (Bcall hS rfl Try.call28 (RDigit_ok (k := (s1, s2, s3, s4, s5)) hR hkw) (by decide) ?_); clear hS; intro aa ww vv hS hp
      clear hR hR0
      obtain ⟨rfl, hR⟩ := hp
      refine dnext (hR.sub exQ) ?_; intro hR0
      refine dAg 21 rfl (by kernel_rfl) (by kernel_rfl) (by kernel_rfl) (fun _ _ _ h => h) hS rfl rfl hR0 (Yld.neq hS rfl rfl) (by decide) ?_; clear hS; intro aa hS
      replace hS := hS.sayB (t := 74) false rfl (by simp)
      refine dA 22 rfl (by kernel_rfl) (by kernel_rfl) (by kernel_rfl) (fun _ _ _ h => h) hS hR0 (Yld.pickF hS rfl rfl) (by decide) ?_; clear hS; intro aa hS
      refine wpAnyH_done (by kernel_rfl) ?_ _; clear hR0
      refine hK521 _ _ ?_
      refine condF hS rfl ?_
      refine wp_skip ?_
      refine hK519 _ _ ?_
      refine wp_region_lit ?_
      refine sA hS hR ((by first | exact Yld.add64 hS rfl rfl (by omega) | exact Yld.add hS rfl rfl)) (by decide) ?_; clear hS; intro aa hS
      refine sA hS hR (Yld.move hS rfl) (by decide) ?_; clear hS; intro aa hS
      refine wpList_nil ?_
      
      refine ⟨(k + 1, _), ?_, ?_, hS.le (Le.cons rfl (Le.nilapp (Le.cons rfl (Le.cons rfl (Le.cons rfl (Le.cons rfl (Le.cons rfl (Le.nil _)))))))), hR.sub (Ex.take pkQ (Ex.take pkQ (Ex.nilapp exQ)))⟩
      · dsimp only; omega
      · dsimp only; omega
    · intro hg hS
      refine condF hS rfl ?_
      refine wp_exit ?_
      refine hK514 _ _ ?_
      refine wp_seq_k ?_; intro K522 hK522
      refine wp_region_lit ?_
      refine sB (Bcall hS rfl Try.call17 (awake_ok hR) (by decide) ?_); clear hS; intro aa ww vv hS hp
      clear hR
      obtain ⟨rfl, hR⟩ := hp
      refine sA hS hR (Yld.assign hS rfl) (by decide) ?_; clear hS; intro aa hS
      refine wpList_nil ?_
      refine hK522 _ _ ?_
      refine wp_ret ?_
      repeat (first | with_reducible refine thenR ?_ | with_reducible refine blockR ?_ | with_reducible refine scopeR ?_)
      refine ret1 (fn := Try.f7) (e := .ret) (.inl rfl) Try.results7 hS hR ⟨_, (.tmp rfl), ?_⟩
      exact ⟨rfl, (hR.sub exQ)⟩
theorem TrieTells_ok {W : World} {q : Option Addr} {n c : Nat} {z0 z2 : Int} {xs : List (List Int)} {l : List HP} {w : World} (A1 : ArgS W [.u8, .u8, .u32, .u32, .u16, .u16, .i64] q n c xs) (hR : Sep (old W :: l) w) : CallR Try.prog 7 [.int .i64 z0, .slice q n c, .int .i64 z2] w (fun v w' => v = .bool true ∧ Sep (old W :: l) w') := by
  by_cases hn : 1 ≤ z0 ∧ z0 ≤ 8192
  · exact TrieTells_yes A1 hR hn
  · exact TrieTells_no A1 hR hn
end Go.Proofs.Ytmcfmhiadlkglaa.Sx
