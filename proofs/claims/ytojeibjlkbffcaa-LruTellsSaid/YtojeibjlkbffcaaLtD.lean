/-
  
-/
import Derived.Test.YtojeibjlkbffcaaLtC
import Derived.Test.YtojeibjlkbffcaaArgs2
namespace Go.Proofs.Ytojeibjlkbffcaa.Sx
open Go
set_option linter.unusedVariables false
set_option linter.unusedSimpArgs false

theorem info50 : Try.prog.info? 50 = some Try.t50 := by kernel_rfl

set_option maxRecDepth 20000 in
theorem LruTells_no {W : World} {z0 t0 : Int} {q : Option Addr} {n c : Nat} {xs : List (List Int)} (A1 : ArgS W [.u8, .i64] q n c xs) {l : List HP} {w : World} (hR : Sep (old W :: l) w) (hn : ¬ (1 ≤ z0 ∧ z0 ≤ 4096)) : CallR Try.prog 6 [.int .i64 z0, .slice q n c, .int .i64 t0] w (fun v w' => v = .bool true ∧ Sep (old W :: l) w') := by
  refine enter Try.func6 rfl Try.ntmps6 (Nat.le_of_ble_eq_true rfl) ?_; intro aa hS
  refine wp_seq_k ?_; intro K504 hK504
  refine wp_region_lit ?_
  refine sA hS hR (Yld.assign hS rfl) (by decide) ?_; clear hS; intro aa hS
  refine wpList_nil ?_
  refine hK504 _ _ ?_
  refine wp_seq_k ?_; intro K505 hK505
  refine wp_region_lit ?_
  refine sA hS hR (Yld.move hS rfl) (by decide) ?_; clear hS; intro aa hS
  refine sB (Bcall hS rfl Try.call21 (lrNew_bad hR (by omega)) (by decide) ?_); clear hS; intro aa ww vv hS hp
  clear hR
  obtain ⟨rfl, hR⟩ := hp
  refine sA hS hR (Yld.move hS rfl) (by decide) ?_; clear hS; intro aa hS
  refine sA hS hR (Yld.extract hS rfl rfl) (by decide) ?_; clear hS; intro aa hS
  refine sA hS hR (Yld.extract hS rfl rfl) (by decide) ?_; clear hS; intro aa hS
  refine sA hS hR (Yld.assign hS rfl) (by decide) ?_; clear hS; intro aa hS
  refine sA hS hR (Yld.assign hS rfl) (by decide) ?_; clear hS; intro aa hS
  refine wpList_nil ?_
  refine hK505 _ _ ?_
  refine wp_seq_k ?_; intro K506 hK506
  refine wp_seq_k ?_; intro K507 hK507
  refine wp_region_lit ?_
  refine sA hS hR (Yld.move hS rfl) (by decide) ?_; clear hS; intro aa hS
  refine sA hS hR (Yld.eql hS rfl rfl) (by decide) ?_; clear hS; intro aa hS
  replace hS := hS.sayB (t := 18) false rfl (by simp)
  refine sA hS hR (Yld.move hS rfl) (by decide) ?_; clear hS; intro aa hS
  refine sB (Bcall hS rfl Try.call22 (URight_ok hR) (by decide) ?_); clear hS; intro aa ww vv hS hp
  clear hR
  obtain ⟨rfl, hR⟩ := hp
  refine sA hS hR (Yld.neqB hS rfl rfl Try.underlying4) (by decide) ?_; clear hS; intro aa hS
  replace hS := hS.sayB (t := 21) false rfl (by rw [decide_eq_false hn]; rfl)
  refine sA hS hR (Yld.move hS rfl) (by decide) ?_; clear hS; intro aa hS
  refine sAg hS hR rfl rfl (Yld.move hS rfl) (by decide) ?_; clear hS; intro aa hS
  refine sAg hS hR rfl rfl (Yld.neq hS rfl rfl) (by decide) ?_; clear hS; intro aa hS
  replace hS := hS.sayB (t := 24) true rfl (by simp)
  refine sAg hS hR rfl rfl (Yld.move hS rfl) (by decide) ?_; clear hS; intro aa hS
  refine sAg hS hR rfl rfl (Yld.move hS rfl) (by decide) ?_; clear hS; intro aa hS
  refine sAg hS hR rfl rfl (Yld.neq hS rfl rfl) (by decide) ?_; clear hS; intro aa hS
  replace hS := hS.sayB (t := 27) false rfl (by simp)
  refine sAg hS hR rfl rfl (Yld.move hS rfl) (by decide) ?_; clear hS; intro aa hS
  refine sAg hS hR rfl rfl (Yld.move hS rfl) (by decide) ?_; clear hS; intro aa hS
  refine sAg hS hR rfl rfl (Yld.neqNil hS rfl rfl Try.underlying23) (by decide) ?_; clear hS; intro aa hS
  replace hS := hS.sayB (t := 30) false rfl (by rfl)
  refine sAg hS hR rfl rfl (Yld.pickF hS rfl rfl) (by decide) ?_; clear hS; intro aa hS
  refine sAg hS hR rfl rfl (Yld.pickT hS rfl rfl) (by decide) ?_; clear hS; intro aa hS
  refine sA hS hR (Yld.pickF hS rfl rfl) (by decide) ?_; clear hS; intro aa hS
  refine wpList_nil ?_
  refine hK507 _ _ ?_
  refine condF hS rfl ?_
  refine wp_skip ?_
  refine hK506 _ _ ?_
  refine wp_seq_k ?_; intro K508 hK508
  refine wp_seq_k ?_; intro K509 hK509
  refine wp_region_lit ?_
  refine sA hS hR (Yld.move hS rfl) (by decide) ?_; clear hS; intro aa hS
  refine sA hS hR (Yld.neq hS rfl rfl) (by decide) ?_; clear hS; intro aa hS
  replace hS := hS.sayB (t := 35) true rfl (by simp)
  refine sA hS hR (Yld.move hS rfl) (by decide) ?_; clear hS; intro aa hS
  refine sSkip hS rfl rfl rfl (by decide) ?_; clear hS; intro aa hS
  refine sSkip hS rfl rfl rfl (by decide) ?_; clear hS; intro aa hS
  refine sA hS hR (Yld.pickT hS rfl rfl) (by decide) ?_; clear hS; intro aa hS
  refine sA hS hR (Yld.move hS rfl) (by decide) ?_; clear hS; intro aa hS
  refine sSkip hS rfl rfl rfl (by decide) ?_; clear hS; intro aa hS
  refine sSkip hS rfl rfl rfl (by decide) ?_; clear hS; intro aa hS
  refine sSkip hS rfl rfl rfl (by decide) ?_; clear hS; intro aa hS
  refine sA hS hR (Yld.pickT hS rfl rfl) (by decide) ?_; clear hS; intro aa hS
  refine wpList_nil ?_
  refine hK509 _ _ ?_
  refine condT hS rfl ?_
  refine wp_seq_k ?_; intro K510 hK510
  refine wp_region_lit ?_
  refine sB (Bcall hS rfl Try.call16 (awake_ok hR) (by decide) ?_); clear hS; intro aa ww vv hS hp
  clear hR
  obtain ⟨rfl, hR⟩ := hp
  refine sA hS hR (Yld.assign hS rfl) (by decide) ?_; clear hS; intro aa hS
  refine wpList_nil ?_
  refine hK510 _ _ ?_
  refine wp_ret ?_
  repeat (first | with_reducible refine thenR ?_ | with_reducible refine blockR ?_ | with_reducible refine scopeR ?_)
  refine ret1 (fn := Try.f6) (e := .ret) (.inl rfl) Try.results6 hS hR ⟨_, (.tmp rfl), ?_⟩
  exact ⟨rfl, (hR.sub (by repeat (first | with_reducible exact Ex.refl | (with_reducible apply Ex.take; · repeat (first | with_reducible exact Pk.here | with_reducible apply Pk.there)) | with_reducible apply Ex.drop)))⟩
set_option maxHeartbeats 4000000 in
set_option maxRecDepth 20000 in
theorem LruTells_yes {W : World} {z0 t0 : Int} {q : Option Addr} {n c : Nat} {xs : List (List Int)} (A1 : ArgS W [.u8, .i64] q n c xs) {l : List HP} {w : World} (hR : Sep (old W :: l) w) (hn : 1 ≤ z0 ∧ z0 ≤ 4096) : CallR Try.prog 6 [.int .i64 z0, .slice q n c, .int .i64 t0] w (fun v w' => v = .bool true ∧ Sep (old W :: l) w') := by
  refine enter Try.func6 rfl Try.ntmps6 (Nat.le_of_ble_eq_true rfl) ?_; intro aa hS
  obtain ⟨S, rfl⟩ : ∃ y : Nat, z0 = y := ⟨z0.toNat, by omega⟩
  have hcap := A1.cap
  have hS1 : 1 ≤ S := by omega
  have hS2 : S ≤ 4096 := by omega
  refine wp_seq_k ?_; intro K511 hK511
  refine wp_region_lit ?_
  refine sA hS hR (Yld.assign hS rfl) (by decide) ?_; clear hS; intro aa hS
  refine wpList_nil ?_
  refine hK511 _ _ ?_
  refine wp_seq_k ?_; intro K512 hK512
  refine wp_region_lit ?_
  refine sA hS hR (Yld.move hS rfl) (by decide) ?_; clear hS; intro aa hS
  refine sB (Bcall hS rfl Try.call21 (lrNew_ok (S := S) hR hS1 hS2) (by decide) ?_); clear hS; intro aa ww vv hS hp
  clear hR
  obtain ⟨b, rfl, hR⟩ := hp
  refine sA hS hR (Yld.move hS rfl) (by decide) ?_; clear hS; intro aa hS
  refine sA hS hR (Yld.extract hS rfl rfl) (by decide) ?_; clear hS; intro aa hS
  refine sA hS hR (Yld.extract hS rfl rfl) (by decide) ?_; clear hS; intro aa hS
  refine sA hS hR (Yld.assign hS rfl) (by decide) ?_; clear hS; intro aa hS
  refine sA hS hR (Yld.assign hS rfl) (by decide) ?_; clear hS; intro aa hS
  refine wpList_nil ?_
  refine hK512 _ _ ?_
  refine wp_seq_k ?_; intro K513 hK513
  refine wp_seq_k ?_; intro K514 hK514
  refine wp_region_lit ?_
  refine sA hS hR (Yld.move hS rfl) (by decide) ?_; clear hS; intro aa hS
  refine sA hS hR (Yld.eql hS rfl rfl) (by decide) ?_; clear hS; intro aa hS
  replace hS := hS.sayB (t := 18) true rfl (by simp)
  refine sA hS hR (Yld.move hS rfl) (by decide) ?_; clear hS; intro aa hS
  refine sB (Bcall hS rfl Try.call22 (URight_ok hR) (by decide) ?_); clear hS; intro aa ww vv hS hp
  clear hR
  obtain ⟨rfl, hR⟩ := hp
  refine sA hS hR (Yld.neqB hS rfl rfl Try.underlying4) (by decide) ?_; clear hS; intro aa hS
  replace hS := hS.sayB (t := 21) false rfl (by rw [decide_eq_true hn]; rfl)
  refine sA hS hR (Yld.move hS rfl) (by decide) ?_; clear hS; intro aa hS
  refine sAg hS hR rfl rfl (Yld.move hS rfl) (by decide) ?_; clear hS; intro aa hS
  refine sAg hS hR rfl rfl (Yld.neq hS rfl rfl) (by decide) ?_; clear hS; intro aa hS
  replace hS := hS.sayB (t := 24) false rfl (by simp)
  refine sAg hS hR rfl rfl (Yld.move hS rfl) (by decide) ?_; clear hS; intro aa hS
  refine sSkip hS rfl rfl rfl (by decide) ?_; clear hS; intro aa hS
  refine sSkip hS rfl rfl rfl (by decide) ?_; clear hS; intro aa hS
  refine sSkip hS rfl rfl rfl (by decide) ?_; clear hS; intro aa hS
  refine sSkipU hS rfl rfl (by decide) ?_; clear hS; intro aa hS
  refine sSkipU hS rfl rfl (by decide) ?_; clear hS; intro aa hS
  refine sSkip hS rfl rfl rfl (by decide) ?_; clear hS; intro aa hS
  refine sAg hS hR rfl rfl (Yld.pickF hS rfl rfl) (by decide) ?_; clear hS; intro aa hS
  refine sA hS hR (Yld.pickF hS rfl rfl) (by decide) ?_; clear hS; intro aa hS
  refine wpList_nil ?_
  refine hK514 _ _ ?_
  refine condF hS rfl ?_
  refine wp_skip ?_
  refine hK513 _ _ ?_
  refine wp_seq_k ?_; intro K515 hK515
  refine wp_seq_k ?_; intro K516 hK516
  refine wp_region_lit ?_
  refine sA hS hR (Yld.move hS rfl) (by decide) ?_; clear hS; intro aa hS
  refine sA hS hR (Yld.neq hS rfl rfl) (by decide) ?_; clear hS; intro aa hS
  replace hS := hS.sayB (t := 35) false rfl (by simp)
  refine sA hS hR (Yld.move hS rfl) (by decide) ?_; clear hS; intro aa hS
  refine sAg hS hR rfl rfl (Yld.move hS rfl) (by decide) ?_; clear hS; intro aa hS
  refine sAg hS hR rfl rfl (Yld.gtr hS rfl rfl) (by decide) ?_; clear hS; intro aa hS
  refine sA hS hR (Yld.pickF hS rfl rfl) (by decide) ?_; clear hS; intro aa hS
  refine sA hS hR (Yld.move hS rfl) (by decide) ?_; clear hS; intro aa hS
  refine hS.splitB (t := 40) rfl ?_ ?_ <;> clear hS
  · intro hg hS
    refine sSkip hS rfl rfl rfl (by decide) ?_; clear hS; intro aa hS
    refine sSkip hS rfl rfl rfl (by decide) ?_; clear hS; intro aa hS
    refine sSkip hS rfl rfl rfl (by decide) ?_; clear hS; intro aa hS
    refine sA hS hR (Yld.pickT hS rfl rfl) (by decide) ?_; clear hS; intro aa hS
    refine wpList_nil ?_
    refine hK516 _ _ ?_
    refine condT hS rfl ?_
    refine wp_seq_k ?_; intro K517 hK517
    refine wp_region_lit ?_
    refine sB (Bcall hS rfl Try.call16 (awake_ok hR) (by decide) ?_); clear hS; intro aa ww vv hS hp
    clear hR
    obtain ⟨rfl, hR⟩ := hp
    refine sA hS hR (Yld.assign hS rfl) (by decide) ?_; clear hS; intro aa hS
    refine wpList_nil ?_
    refine hK517 _ _ ?_
    refine wp_ret ?_
    repeat (first | with_reducible refine thenR ?_ | with_reducible refine blockR ?_ | with_reducible refine scopeR ?_)
    refine ret1 (fn := Try.f6) (e := .ret) (.inl rfl) Try.results6 hS hR ⟨_, (.tmp rfl), ?_⟩
    exact ⟨rfl, (hR.sub (by repeat (first | with_reducible exact Ex.refl | (with_reducible apply Ex.take; · repeat (first | with_reducible exact Pk.here | with_reducible apply Pk.there)) | with_reducible apply Ex.drop)))⟩
  · intro hg hS
    refine sAg hS hR rfl rfl (Yld.move hS rfl) (by decide) ?_; clear hS; intro aa hS
    refine sAg hS hR rfl rfl (Yld.len hS rfl Try.underlying43) (by decide) ?_; clear hS; intro aa hS
    refine sAg hS hR rfl rfl (Yld.gtr hS rfl rfl) (by decide) ?_; clear hS; intro aa hS
    refine sA hS hR (Yld.pickF hS rfl rfl) (by decide) ?_; clear hS; intro aa hS
    refine wpList_nil ?_
    refine hK516 _ _ ?_
    refine hS.splitB (t := 44) rfl ?_ ?_ <;> clear hS
    · intro hg hS
      refine condT hS rfl ?_
      refine wp_seq_k ?_; intro K518 hK518
      refine wp_region_lit ?_
      refine sB (Bcall hS rfl Try.call16 (awake_ok hR) (by decide) ?_); clear hS; intro aa ww vv hS hp
      clear hR
      obtain ⟨rfl, hR⟩ := hp
      refine sA hS hR (Yld.assign hS rfl) (by decide) ?_; clear hS; intro aa hS
      refine wpList_nil ?_
      refine hK518 _ _ ?_
      refine wp_ret ?_
      repeat (first | with_reducible refine thenR ?_ | with_reducible refine blockR ?_ | with_reducible refine scopeR ?_)
      refine ret1 (fn := Try.f6) (e := .ret) (.inl rfl) Try.results6 hS hR ⟨_, (.tmp rfl), ?_⟩
      exact ⟨rfl, (hR.sub (by repeat (first | with_reducible exact Ex.refl | (with_reducible apply Ex.take; · repeat (first | with_reducible exact Pk.here | with_reducible apply Pk.there)) | with_reducible apply Ex.drop)))⟩
    · intro hg hS
      refine condF hS rfl ?_
      refine wp_skip ?_
      refine hK515 _ _ ?_
      refine wp_seq_k ?_; intro K519 hK519
      refine wp_seq_k ?_; intro K520 hK520
      refine wp_region_lit ?_
      refine sA hS hR (Yld.move hS rfl) (by decide) ?_; clear hS; intro aa hS
      refine sA hS hR (Yld.eqlNil hS rfl rfl Try.underlying23) (by decide) ?_; clear hS; intro aa hS
      replace hS := hS.sayB (t := 47) false rfl (by rfl)
      refine wpList_nil ?_
      refine hK520 _ _ ?_
      refine condF hS rfl ?_
      refine wp_skip ?_
      refine hK519 _ _ ?_
      refine wp_seq_k ?_; intro K521 hK521
      refine wp_region_lit ?_
      refine sA hS hR (Yld.move hS rfl) (by decide) ?_; clear hS; intro aa hS
      refine sB (Bcall hS rfl Try.call23 (UNew_ok (S := S) hR hS1 (by omega)) (by decide) ?_); clear hS; intro aa ww vv hS hp
      clear hR
      obtain ⟨b2, rfl, hR⟩ := hp
      refine sA hS hR (Yld.assign hS rfl) (by decide) ?_; clear hS; intro aa hS
      refine wpList_nil ?_
      refine hK521 _ _ ?_
      refine wp_seq_k ?_; intro K522 hK522
      refine wp_seq_k ?_; intro K523 hK523
      refine wp_region_lit ?_
      refine sA hS hR (Yld.move hS rfl) (by decide) ?_; clear hS; intro aa hS
      refine sA hS hR (Yld.len hS rfl Try.underlying43) (by decide) ?_; clear hS; intro aa hS
      refine sA hS hR (Yld.move hS rfl) (by decide) ?_; clear hS; intro aa hS
      refine wpList_nil ?_
      refine hK523 _ _ ?_
      refine wp_block ?_
      replace hR := hR.pk (r := rluA 65 3 b2 S (fun _ => 0) 0) (by repeat (first | with_reducible exact Pk.here | with_reducible apply Pk.there))
      replace hR := hR.pk (r := lruA 56 80 77 3 b S [] (fun _ => 0) 0) (by repeat (first | with_reducible exact Pk.here | with_reducible apply Pk.there))
      refine loopI (X := Nat × List Nat × (Nat → Int) × Int × (Nat → Int)) [(2, _), (7, _), (9, _), (50, _), (51, _)] (fun x => [(52, .int .i64 (x.1 : Int))]) (fun x => [lruA 56 80 77 3 b S x.2.1 x.2.2.1 x.2.2.2.1, rluA 65 3 b2 S x.2.2.2.2 x.2.2.2.1]) _ (fun x => x.1 ≤ n ∧ LS S x.2.1 x.2.2.1 x.2.2.2.1 x.2.2.2.2 ∧ 0 ≤ x.2.2.2.1 ∧ x.2.2.2.1 ≤ x.1) (fun x => n - x.1) (0, [], fun _ => 0, 0, fun _ => 0) ⟨Nat.zero_le _, LS.new, by dsimp only; omega, by dsimp only; omega⟩ (hS.le (Le.cons rfl (Le.nilapp (Le.cons rfl (Le.cons rfl (Le.cons rfl (Le.cons rfl (Le.cons rfl (Le.nil _))))))))) hR ?_
      clear hS hR; rintro ⟨i, ord, T, now, tm⟩ aa ww hI hS hR; dsimp only [List.cons_append, List.nil_append] at hI hS hR
      refine wp_seq_k ?_; intro K525 hK525
      refine wp_region_lit ?_
      refine sA hS hR (Yld.lss hS rfl rfl) (by decide) ?_; clear hS; intro aa hS
      refine wpList_nil ?_
      refine hK525 _ _ ?_
      refine wp_seq_k ?_; intro K526 hK526
      refine hS.splitB (t := 53) rfl ?_ ?_ <;> clear hS
      · intro hg hS
        refine condT hS rfl ?_
        refine wp_skip ?_
        refine hK526 _ _ ?_
        refine wp_seq_k ?_; intro K527 hK527
        refine wp_block ?_
        refine wp_seq_k ?_; intro K528 hK528
        refine wp_region_lit ?_
        obtain ⟨ba, ia, ns, hq, hx, hl, hw, hc⟩ := A1.at (k := i) (by omega)
        obtain ⟨s0, s1, rfl⟩ := len2 hl
        subst hq
        have hs0 : 0 ≤ s0 ∧ s0 ≤ 255 := hw.1
        refine sA hS hR ((by first | exact Yld.indexH (sz := 2) (_) hS rfl rfl Try.underlying43 info50 (by assumption) rfl (by first | rfl | omega) (by omega) | exact Yld.indexL (sz := 2) (_) hS rfl rfl Try.underlying43 info50 (by repeat (first | with_reducible exact Pk.here | with_reducible apply Pk.there)) rfl (by first | rfl | omega) (by omega) | exact Yld.indexB (sz := 2) (_) hS rfl rfl Try.underlying43 info50 rfl (by first | rfl | omega) (by omega) | exact Yld.indexSlice hS rfl rfl Try.underlying43 info50 (by omega) (by omega))) (by decide) ?_; clear hS; intro aa hS
        refine sA hS hR (Yld.loadAgg (vs := [.int .u8 s0, .int .i64 s1]) hS rfl Try.underlying50 rfl info50 (Rds.at (Rds.old (by repeat (first | with_reducible exact Pk.here | with_reducible apply Pk.there)) hc) (by rfl)) (by rfl)) (by decide) ?_; clear hS; intro aa hS
        refine sB (Balloc hS hR info50 (by rfl) (by rfl) (by decide) ?_); clear hS hR; intro aa ww bb11 hS hR
        refine sB (Bstore hS hR rfl rfl (by rfl) info50 (by rfl) (by repeat (first | with_reducible exact Pk.here | with_reducible apply Pk.there)) (by rfl) (Nat.le_of_ble_eq_true rfl) ?_); clear hR; intro ww hR
        refine wpList_nil ?_
        refine hK528 _ _ ?_
        refine wp_seq_k ?_; intro K529 hK529
        refine wp_region_lit ?_
        refine sA hS hR (Yld.move hS rfl) (by decide) ?_; clear hS; intro aa hS
        refine sA hS hR (Yld.move hS rfl) (by decide) ?_; clear hS; intro aa hS
        refine sA hS hR (Yld.loadAgg hS rfl Try.underlying50 rfl info50 (by first | exact Rds.cons (Rd.blk (by repeat (first | with_reducible exact Pk.here | with_reducible apply Pk.there)) (by rfl)) (Rds.cons (Rd.blk (by repeat (first | with_reducible exact Pk.here | with_reducible apply Pk.there)) (by rfl)) (Rds.nil)) | exact Rds.rec (by repeat (first | with_reducible exact Pk.here | with_reducible apply Pk.there)) (by intro _; rfl) (by omega) | exact Rds.flat1 (by repeat (first | with_reducible exact Pk.here | with_reducible apply Pk.there)) (by intro _; rfl) (by omega)) (by rfl)) (by decide) ?_; clear hS; intro aa hS
        refine sB (Bcall hS rfl Try.call24 (act33_ok hS1 hS2 hI.2.1 hs0 (by omega) ((hR.pk (r := rluA _ _ _ _ _ _) (by repeat (first | with_reducible exact Pk.here | with_reducible apply Pk.there))).pk (r := lruA _ _ _ _ _ _ _ _ _) (by repeat (first | with_reducible exact Pk.here | with_reducible apply Pk.there)))) (by decide) ?_); clear hS; intro aa ww vv hS hp
        clear hR
        obtain ⟨ord3, T3, now3, tm3, rfl, hL3, hb3, hb4, hR⟩ := hp
        refine sA hS hR (Yld.not hS rfl) (by decide) ?_; clear hS; intro aa hS
        refine sA hS hR (Yld.move hS rfl) (by decide) ?_; clear hS; intro aa hS
        refine sAg hS hR rfl rfl (Yld.move hS rfl) (by decide) ?_; clear hS; intro aa hS
        refine sAg hS hR rfl rfl (Yld.move hS rfl) (by decide) ?_; clear hS; intro aa hS
        refine sAg hS hR rfl rfl (Yld.fieldAddr hS rfl 1 Try.underlying50 rfl rfl info3 (by decide)) (by decide) ?_; clear hS; intro aa hS
        refine sAg hS hR rfl rfl (Yld.load1 hS rfl Try.underlying3 rfl (by first | exact Rd.blk (by repeat (first | with_reducible exact Pk.here | with_reducible apply Pk.there)) (by rfl) | exact Rd.rec (by repeat (first | with_reducible exact Pk.here | with_reducible apply Pk.there)) (by intro _; rfl) (by omega) rfl | exact Rd.rec0 (by repeat (first | with_reducible exact Pk.here | with_reducible apply Pk.there)) (by intro _; rfl) (by omega) rfl | exact Rd.flatJ (by repeat (first | with_reducible exact Pk.here | with_reducible apply Pk.there)) (by intro _; rfl) (by omega) rfl | exact Rd.flat0 (by repeat (first | with_reducible exact Pk.here | with_reducible apply Pk.there)) (by intro _; rfl) (by omega) rfl)) (by decide) ?_; clear hS; intro aa hS
        refine sAg hS hR rfl rfl (Yld.move hS rfl) (by decide) ?_; clear hS; intro aa hS
        refine sBg hS rfl rfl (Bcall hS rfl Try.call25 (same33_ok hS1 hS2 hL3 ((hR.pk (r := rluA _ _ _ _ _ _) (by repeat (first | with_reducible exact Pk.here | with_reducible apply Pk.there))).pk (r := lruA _ _ _ _ _ _ _ _ _) (by repeat (first | with_reducible exact Pk.here | with_reducible apply Pk.there)))) (by decide) ?_); clear hS; intro aa ww vv hS hp
        clear hR
        obtain ⟨rfl, hR⟩ := hp
        refine sAg hS hR rfl rfl (Yld.not hS rfl) (by decide) ?_; clear hS; intro aa hS
        refine sA hS hR (Yld.pickF hS rfl rfl) (by decide) ?_; clear hS; intro aa hS
        refine wpList_nil ?_
        refine hK529 _ _ ?_
        refine condF hS rfl ?_
        refine wp_skip ?_
        refine hK527 _ _ ?_
        refine wp_region_lit ?_
        refine sA hS hR ((by first | exact Yld.add64 hS rfl rfl (by omega) | exact Yld.add hS rfl rfl)) (by decide) ?_; clear hS; intro aa hS
        refine sA hS hR (Yld.move hS rfl) (by decide) ?_; clear hS; intro aa hS
        refine wpList_nil ?_
        
        refine ⟨(i + 1, ord3, T3, now3, tm3), ?_, ?_, hS.le (Le.cons rfl (Le.nilapp (Le.cons rfl (Le.cons rfl (Le.cons rfl (Le.cons rfl (Le.cons rfl (Le.nil _)))))))), hR.sub (Ex.take (by repeat (first | with_reducible exact Pk.here | with_reducible apply Pk.there)) (Ex.take (by repeat (first | with_reducible exact Pk.here | with_reducible apply Pk.there)) (Ex.nilapp (by repeat (first | with_reducible exact Ex.refl | (with_reducible apply Ex.take; · repeat (first | with_reducible exact Pk.here | with_reducible apply Pk.there)) | with_reducible apply Ex.drop)))))⟩
        · exact ⟨by omega, hL3, by dsimp only; omega, by dsimp only; omega⟩
        · dsimp only; omega
      · intro hg hS
        refine condF hS rfl ?_
        refine wp_exit ?_
        refine hK522 _ _ ?_
        refine wp_seq_k ?_; intro K530 hK530
        refine wp_region_lit ?_
        refine sB (Bcall hS rfl Try.call16 (awake_ok hR) (by decide) ?_); clear hS; intro aa ww vv hS hp
        clear hR
        obtain ⟨rfl, hR⟩ := hp
        refine sA hS hR (Yld.assign hS rfl) (by decide) ?_; clear hS; intro aa hS
        refine wpList_nil ?_
        refine hK530 _ _ ?_
        refine wp_ret ?_
        repeat (first | with_reducible refine thenR ?_ | with_reducible refine blockR ?_ | with_reducible refine scopeR ?_)
        refine ret1 (fn := Try.f6) (e := .ret) (.inl rfl) Try.results6 hS hR ⟨_, (.tmp rfl), ?_⟩
        exact ⟨rfl, (hR.sub (by repeat (first | with_reducible exact Ex.refl | (with_reducible apply Ex.take; · repeat (first | with_reducible exact Pk.here | with_reducible apply Pk.there)) | with_reducible apply Ex.drop)))⟩
theorem LruTells_ok {W : World} {z0 t0 : Int} {q : Option Addr} {n c : Nat} {xs : List (List Int)} (A1 : ArgS W [.u8, .i64] q n c xs) {l : List HP} {w : World} (hR : Sep (old W :: l) w) : CallR Try.prog 6 [.int .i64 z0, .slice q n c, .int .i64 t0] w (fun v w' => v = .bool true ∧ Sep (old W :: l) w') := by
  by_cases hn : 1 ≤ z0 ∧ z0 ≤ 4096
  · exact LruTells_yes A1 hR hn
  · exact LruTells_no A1 hR hn
end Go.Proofs.Ytojeibjlkbffcaa.Sx
