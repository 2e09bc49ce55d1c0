/-
  
-/
import Derived.Test.YtojeibjlkbffcaaLtA
import Derived.Test.YtojeibjlkbffcaaLru5
namespace Go.Proofs.Ytojeibjlkbffcaa.Sx
open Go
set_option linter.unusedVariables false
set_option linter.unusedSimpArgs false

theorem info5 : Try.prog.info? 5 = some Try.t5 := by kernel_rfl

set_option maxHeartbeats 2000000 in
set_option maxRecDepth 20000 in
theorem act33_ok {S b b2 : Nat} {ord : List Nat} {T tm : Nat → Int} {now : Int} {l : List HP} {w : World} (h1 : 1 ≤ S) (h2 : S ≤ 4096) (hLS : LS S ord T now tm) {k0 s0 : Int} (hk : 0 ≤ k0 ∧ k0 ≤ 255) (hn : 0 ≤ now ∧ now ≤ 4611686018427387904) (hR : Sep (lruA 56 80 77 3 b S ord T now :: rluA 65 3 b2 S tm now :: l) w) : CallR Try.prog 24 [.pointer (some ⟨b, 0, none⟩), .pointer (some ⟨b2, 0, none⟩), .agg [.int .u8 k0, .int .i64 s0].toArray] w (fun v w' => ∃ ord2 T2 now2 tm2, v = .bool true ∧ LS S ord2 T2 now2 tm2 ∧ now ≤ now2 ∧ now2 ≤ now + 1 ∧ Sep (lruA 56 80 77 3 b S ord2 T2 now2 :: rluA 65 3 b2 S tm2 now2 :: l) w') := by
  refine enter Try.func24 rfl Try.ntmps24 (Nat.le_of_ble_eq_true rfl) ?_; intro aa hS
  refine wp_seq_k ?_; intro K448 hK448
  refine wp_region_lit ?_
  refine sB (Bbox hS hR rfl (by rfl) (by decide) ?_); clear hS hR; intro aa ww bb5 hS hR
  refine sA hS hR (Yld.assign hS rfl) (by decide) ?_; clear hS; intro aa hS
  refine wpList_nil ?_
  refine hK448 _ _ ?_
  refine wp_seq_k ?_; intro K449 hK449
  refine wp_seq_k ?_; intro K450 hK450
  refine wp_region_lit ?_
  refine sA hS hR (Yld.fieldAddr hS rfl 0 Try.underlying50 rfl rfl info5 (by decide)) (by decide) ?_; clear hS; intro aa hS
  refine sA hS hR (Yld.load1 hS rfl Try.underlying5 rfl (by first | exact Rd.blk (by repeat (first | with_reducible exact Pk.here | with_reducible apply Pk.there)) (by rfl) | exact Rd.rec (by repeat (first | with_reducible exact Pk.here | with_reducible apply Pk.there)) (by intro _; rfl) (by omega) rfl | exact Rd.rec0 (by repeat (first | with_reducible exact Pk.here | with_reducible apply Pk.there)) (by intro _; rfl) (by omega) rfl | exact Rd.flatJ (by repeat (first | with_reducible exact Pk.here | with_reducible apply Pk.there)) (by intro _; rfl) (by omega) rfl | exact Rd.flat0 (by repeat (first | with_reducible exact Pk.here | with_reducible apply Pk.there)) (by intro _; rfl) (by omega) rfl)) (by decide) ?_; clear hS; intro aa hS
  refine sA hS hR ((by first | exact Yld.rem64 hS rfl rfl (by omega) | exact Yld.rem hS rfl rfl (by omega))) (by decide) ?_; clear hS; intro aa hS
  refine wpList_nil ?_
  refine hK450 _ _ ?_
  refine wp_block ?_
  refine wp_seq_k ?_; intro K451 hK451
  refine wp_seq_k ?_; intro K452 hK452
  refine wp_region_lit ?_
  refine sA hS hR (Yld.eql hS rfl rfl) (by decide) ?_; clear hS; intro aa hS
  refine sA hS hR (Yld.assign hS rfl) (by decide) ?_; clear hS; intro aa hS
  refine wpList_nil ?_
  refine hK452 _ _ ?_
  refine hS.splitB (t := 16) rfl ?_ ?_ <;> clear hS
  · intro hg hS
    refine condT hS rfl ?_
    refine wp_skip ?_
    refine hK451 _ _ ?_
    refine condT hS rfl ?_
    refine wp_seq_k ?_; intro K453 hK453
    refine wp_region_lit ?_
    refine sA hS hR (Yld.move hS rfl) (by decide) ?_; clear hS; intro aa hS
    refine sA hS hR (Yld.fieldAddr hS rfl 1 Try.underlying50 rfl rfl info3 (by decide)) (by decide) ?_; clear hS; intro aa hS
    refine sA hS hR (Yld.load1 hS rfl Try.underlying3 rfl (by first | exact Rd.blk (by repeat (first | with_reducible exact Pk.here | with_reducible apply Pk.there)) (by rfl) | exact Rd.rec (by repeat (first | with_reducible exact Pk.here | with_reducible apply Pk.there)) (by intro _; rfl) (by omega) rfl | exact Rd.rec0 (by repeat (first | with_reducible exact Pk.here | with_reducible apply Pk.there)) (by intro _; rfl) (by omega) rfl | exact Rd.flatJ (by repeat (first | with_reducible exact Pk.here | with_reducible apply Pk.there)) (by intro _; rfl) (by omega) rfl | exact Rd.flat0 (by repeat (first | with_reducible exact Pk.here | with_reducible apply Pk.there)) (by intro _; rfl) (by omega) rfl)) (by decide) ?_; clear hS; intro aa hS
    refine sB (Bcall hS rfl Try.call19 (lrSee_ok (i := s0) (hR.pk (r := lruA _ _ _ _ _ _ _ _ _) (by repeat (first | with_reducible exact Pk.here | with_reducible apply Pk.there))) hn) (by decide) ?_); clear hS; intro aa ww vv hS hp
    clear hR
    obtain ⟨rfl, hR⟩ := hp
    obtain ⟨a1, a2, hv⟩ : ∃ a1 a2, seeV S now s0 = .tuple [.int .i64 a1, .int .i64 a2].toArray := by unfold seeV; split <;> exact ⟨_, _, rfl⟩
    rw [hv] at hS
    refine sA hS hR (Yld.move hS rfl) (by decide) ?_; clear hS; intro aa hS
    refine sA hS hR (Yld.extract hS rfl rfl) (by decide) ?_; clear hS; intro aa hS
    refine sA hS hR (Yld.extract hS rfl rfl) (by decide) ?_; clear hS; intro aa hS
    refine sA hS hR (Yld.assign hS rfl) (by decide) ?_; clear hS; intro aa hS
    refine sA hS hR (Yld.assign hS rfl) (by decide) ?_; clear hS; intro aa hS
    refine wpList_nil ?_
    refine hK453 _ _ ?_
    refine wp_seq_k ?_; intro K454 hK454
    refine wp_region_lit ?_
    refine sA hS hR (Yld.move hS rfl) (by decide) ?_; clear hS; intro aa hS
    refine sA hS hR (Yld.fieldAddr hS rfl 1 Try.underlying50 rfl rfl info3 (by decide)) (by decide) ?_; clear hS; intro aa hS
    refine sA hS hR (Yld.load1 hS rfl Try.underlying3 rfl (by first | exact Rd.blk (by repeat (first | with_reducible exact Pk.here | with_reducible apply Pk.there)) (by rfl) | exact Rd.rec (by repeat (first | with_reducible exact Pk.here | with_reducible apply Pk.there)) (by intro _; rfl) (by omega) rfl | exact Rd.rec0 (by repeat (first | with_reducible exact Pk.here | with_reducible apply Pk.there)) (by intro _; rfl) (by omega) rfl | exact Rd.flatJ (by repeat (first | with_reducible exact Pk.here | with_reducible apply Pk.there)) (by intro _; rfl) (by omega) rfl | exact Rd.flat0 (by repeat (first | with_reducible exact Pk.here | with_reducible apply Pk.there)) (by intro _; rfl) (by omega) rfl)) (by decide) ?_; clear hS; intro aa hS
    refine sB (Bcall hS rfl Try.call38 (USee_ok (ord := ord) (T := T) h1 (by omega) (i := s0) hn (hR.pk (r := rluA _ _ _ _ _ _) (by repeat (first | with_reducible exact Pk.here | with_reducible apply Pk.there)))) (by decide) ?_); clear hS; intro aa ww vv hS hp
    clear hR
    obtain ⟨rfl, hR⟩ := hp
    rw [hv] at hS
    have hL2 := hLS.seeI (s := s0) hn.1
    have hb9 := seeN_bd (S := S) (now := now) (s := s0)
    refine sA hS hR (Yld.move hS rfl) (by decide) ?_; clear hS; intro aa hS
    refine sA hS hR (Yld.extract hS rfl rfl) (by decide) ?_; clear hS; intro aa hS
    refine sA hS hR (Yld.extract hS rfl rfl) (by decide) ?_; clear hS; intro aa hS
    refine sA hS hR (Yld.assign hS rfl) (by decide) ?_; clear hS; intro aa hS
    refine sA hS hR (Yld.assign hS rfl) (by decide) ?_; clear hS; intro aa hS
    refine wpList_nil ?_
    refine hK454 _ _ ?_
    refine wp_seq_k ?_; intro K455 hK455
    refine wp_region_lit ?_
    refine sA hS hR (Yld.move hS rfl) (by decide) ?_; clear hS; intro aa hS
    refine sA hS hR (Yld.move hS rfl) (by decide) ?_; clear hS; intro aa hS
    refine sA hS hR (Yld.eql hS rfl rfl) (by decide) ?_; clear hS; intro aa hS
    replace hS := hS.sayB (t := 36) true rfl (by simp)
    refine sA hS hR (Yld.move hS rfl) (by decide) ?_; clear hS; intro aa hS
    refine sAg hS hR rfl rfl (Yld.move hS rfl) (by decide) ?_; clear hS; intro aa hS
    refine sAg hS hR rfl rfl (Yld.move hS rfl) (by decide) ?_; clear hS; intro aa hS
    refine sAg hS hR rfl rfl (Yld.eql hS rfl rfl) (by decide) ?_; clear hS; intro aa hS
    replace hS := hS.sayB (t := 40) true rfl (by simp)
    refine sA hS hR (Yld.pickT hS rfl rfl) (by decide) ?_; clear hS; intro aa hS
    refine sA hS hR (Yld.assign hS rfl) (by decide) ?_; clear hS; intro aa hS
    refine wpList_nil ?_
    refine hK455 _ _ ?_
    refine wp_ret ?_
    repeat (first | with_reducible refine thenR ?_ | with_reducible refine blockR ?_ | with_reducible refine scopeR ?_)
    refine ret1 (fn := Try.f24) (e := .ret) (.inl rfl) Try.results24 hS hR ⟨_, (.tmp rfl), ?_⟩
    exact ⟨_, _, _, _, rfl, hL2, by omega, by omega, (hR.sub (by repeat (first | with_reducible exact Ex.refl | (with_reducible apply Ex.take; · repeat (first | with_reducible exact Pk.here | with_reducible apply Pk.there)) | with_reducible apply Ex.drop)))⟩
  · intro hg hS
    refine condF hS rfl ?_
    refine wp_seq_k ?_; intro K456 hK456
    refine wp_region_lit ?_
    refine sA hS hR (Yld.eql hS rfl rfl) (by decide) ?_; clear hS; intro aa hS
    refine sA hS hR (Yld.assign hS rfl) (by decide) ?_; clear hS; intro aa hS
    refine wpList_nil ?_
    refine hK456 _ _ ?_
    refine hS.splitB (t := 16) rfl ?_ ?_ <;> clear hS
    · intro hg hS
      refine condT hS rfl ?_
      refine wp_skip ?_
      refine hK451 _ _ ?_
      refine condT hS rfl ?_
      refine wp_seq_k ?_; intro K457 hK457
      refine wp_region_lit ?_
      refine sA hS hR (Yld.move hS rfl) (by decide) ?_; clear hS; intro aa hS
      refine sA hS hR (Yld.fieldAddr hS rfl 1 Try.underlying50 rfl rfl info3 (by decide)) (by decide) ?_; clear hS; intro aa hS
      refine sA hS hR (Yld.load1 hS rfl Try.underlying3 rfl (by first | exact Rd.blk (by repeat (first | with_reducible exact Pk.here | with_reducible apply Pk.there)) (by rfl) | exact Rd.rec (by repeat (first | with_reducible exact Pk.here | with_reducible apply Pk.there)) (by intro _; rfl) (by omega) rfl | exact Rd.rec0 (by repeat (first | with_reducible exact Pk.here | with_reducible apply Pk.there)) (by intro _; rfl) (by omega) rfl | exact Rd.flatJ (by repeat (first | with_reducible exact Pk.here | with_reducible apply Pk.there)) (by intro _; rfl) (by omega) rfl | exact Rd.flat0 (by repeat (first | with_reducible exact Pk.here | with_reducible apply Pk.there)) (by intro _; rfl) (by omega) rfl)) (by decide) ?_; clear hS; intro aa hS
      refine sB (Bcall hS rfl Try.call19 (lrSee_ok (i := s0) (hR.pk (r := lruA _ _ _ _ _ _ _ _ _) (by repeat (first | with_reducible exact Pk.here | with_reducible apply Pk.there))) hn) (by decide) ?_); clear hS; intro aa ww vv hS hp
      clear hR
      obtain ⟨rfl, hR⟩ := hp
      obtain ⟨a1, a2, hv⟩ : ∃ a1 a2, seeV S now s0 = .tuple [.int .i64 a1, .int .i64 a2].toArray := by unfold seeV; split <;> exact ⟨_, _, rfl⟩
      rw [hv] at hS
      refine sA hS hR (Yld.move hS rfl) (by decide) ?_; clear hS; intro aa hS
      refine sA hS hR (Yld.extract hS rfl rfl) (by decide) ?_; clear hS; intro aa hS
      refine sA hS hR (Yld.extract hS rfl rfl) (by decide) ?_; clear hS; intro aa hS
      refine sA hS hR (Yld.assign hS rfl) (by decide) ?_; clear hS; intro aa hS
      refine sA hS hR (Yld.assign hS rfl) (by decide) ?_; clear hS; intro aa hS
      refine wpList_nil ?_
      refine hK457 _ _ ?_
      refine wp_seq_k ?_; intro K458 hK458
      refine wp_region_lit ?_
      refine sA hS hR (Yld.move hS rfl) (by decide) ?_; clear hS; intro aa hS
      refine sA hS hR (Yld.fieldAddr hS rfl 1 Try.underlying50 rfl rfl info3 (by decide)) (by decide) ?_; clear hS; intro aa hS
      refine sA hS hR (Yld.load1 hS rfl Try.underlying3 rfl (by first | exact Rd.blk (by repeat (first | with_reducible exact Pk.here | with_reducible apply Pk.there)) (by rfl) | exact Rd.rec (by repeat (first | with_reducible exact Pk.here | with_reducible apply Pk.there)) (by intro _; rfl) (by omega) rfl | exact Rd.rec0 (by repeat (first | with_reducible exact Pk.here | with_reducible apply Pk.there)) (by intro _; rfl) (by omega) rfl | exact Rd.flatJ (by repeat (first | with_reducible exact Pk.here | with_reducible apply Pk.there)) (by intro _; rfl) (by omega) rfl | exact Rd.flat0 (by repeat (first | with_reducible exact Pk.here | with_reducible apply Pk.there)) (by intro _; rfl) (by omega) rfl)) (by decide) ?_; clear hS; intro aa hS
      refine sB (Bcall hS rfl Try.call38 (USee_ok (ord := ord) (T := T) h1 (by omega) (i := s0) hn (hR.pk (r := rluA _ _ _ _ _ _) (by repeat (first | with_reducible exact Pk.here | with_reducible apply Pk.there)))) (by decide) ?_); clear hS; intro aa ww vv hS hp
      clear hR
      obtain ⟨rfl, hR⟩ := hp
      rw [hv] at hS
      have hL2 := hLS.seeI (s := s0) hn.1
      have hb9 := seeN_bd (S := S) (now := now) (s := s0)
      refine sA hS hR (Yld.move hS rfl) (by decide) ?_; clear hS; intro aa hS
      refine sA hS hR (Yld.extract hS rfl rfl) (by decide) ?_; clear hS; intro aa hS
      refine sA hS hR (Yld.extract hS rfl rfl) (by decide) ?_; clear hS; intro aa hS
      refine sA hS hR (Yld.assign hS rfl) (by decide) ?_; clear hS; intro aa hS
      refine sA hS hR (Yld.assign hS rfl) (by decide) ?_; clear hS; intro aa hS
      refine wpList_nil ?_
      refine hK458 _ _ ?_
      refine wp_seq_k ?_; intro K459 hK459
      refine wp_region_lit ?_
      refine sA hS hR (Yld.move hS rfl) (by decide) ?_; clear hS; intro aa hS
      refine sA hS hR (Yld.move hS rfl) (by decide) ?_; clear hS; intro aa hS
      refine sA hS hR (Yld.eql hS rfl rfl) (by decide) ?_; clear hS; intro aa hS
      replace hS := hS.sayB (t := 36) true rfl (by simp)
      refine sA hS hR (Yld.move hS rfl) (by decide) ?_; clear hS; intro aa hS
      refine sAg hS hR rfl rfl (Yld.move hS rfl) (by decide) ?_; clear hS; intro aa hS
      refine sAg hS hR rfl rfl (Yld.move hS rfl) (by decide) ?_; clear hS; intro aa hS
      refine sAg hS hR rfl rfl (Yld.eql hS rfl rfl) (by decide) ?_; clear hS; intro aa hS
      replace hS := hS.sayB (t := 40) true rfl (by simp)
      refine sA hS hR (Yld.pickT hS rfl rfl) (by decide) ?_; clear hS; intro aa hS
      refine sA hS hR (Yld.assign hS rfl) (by decide) ?_; clear hS; intro aa hS
      refine wpList_nil ?_
      refine hK459 _ _ ?_
      refine wp_ret ?_
      repeat (first | with_reducible refine thenR ?_ | with_reducible refine blockR ?_ | with_reducible refine scopeR ?_)
      refine ret1 (fn := Try.f24) (e := .ret) (.inl rfl) Try.results24 hS hR ⟨_, (.tmp rfl), ?_⟩
      exact ⟨_, _, _, _, rfl, hL2, by omega, by omega, (hR.sub (by repeat (first | with_reducible exact Ex.refl | (with_reducible apply Ex.take; · repeat (first | with_reducible exact Pk.here | with_reducible apply Pk.there)) | with_reducible apply Ex.drop)))⟩
    · intro hg hS
      refine condF hS rfl ?_
      refine wp_region_lit ?_
      refine sA hS hR (Yld.eql hS rfl rfl) (by decide) ?_; clear hS; intro aa hS
      refine sA hS hR (Yld.assign hS rfl) (by decide) ?_; clear hS; intro aa hS
      refine wpList_nil ?_
      refine hK451 _ _ ?_
      refine hS.splitB (t := 16) rfl ?_ ?_ <;> clear hS
      · intro hg hS
        refine condT hS rfl ?_
        refine wp_seq_k ?_; intro K460 hK460
        refine wp_region_lit ?_
        refine sA hS hR (Yld.move hS rfl) (by decide) ?_; clear hS; intro aa hS
        refine sA hS hR (Yld.fieldAddr hS rfl 1 Try.underlying50 rfl rfl info3 (by decide)) (by decide) ?_; clear hS; intro aa hS
        refine sA hS hR (Yld.load1 hS rfl Try.underlying3 rfl (by first | exact Rd.blk (by repeat (first | with_reducible exact Pk.here | with_reducible apply Pk.there)) (by rfl) | exact Rd.rec (by repeat (first | with_reducible exact Pk.here | with_reducible apply Pk.there)) (by intro _; rfl) (by omega) rfl | exact Rd.rec0 (by repeat (first | with_reducible exact Pk.here | with_reducible apply Pk.there)) (by intro _; rfl) (by omega) rfl | exact Rd.flatJ (by repeat (first | with_reducible exact Pk.here | with_reducible apply Pk.there)) (by intro _; rfl) (by omega) rfl | exact Rd.flat0 (by repeat (first | with_reducible exact Pk.here | with_reducible apply Pk.there)) (by intro _; rfl) (by omega) rfl)) (by decide) ?_; clear hS; intro aa hS
        refine sB (Bcall hS rfl Try.call19 (lrSee_ok (i := s0) (hR.pk (r := lruA _ _ _ _ _ _ _ _ _) (by repeat (first | with_reducible exact Pk.here | with_reducible apply Pk.there))) hn) (by decide) ?_); clear hS; intro aa ww vv hS hp
        clear hR
        obtain ⟨rfl, hR⟩ := hp
        obtain ⟨a1, a2, hv⟩ : ∃ a1 a2, seeV S now s0 = .tuple [.int .i64 a1, .int .i64 a2].toArray := by unfold seeV; split <;> exact ⟨_, _, rfl⟩
        rw [hv] at hS
        refine sA hS hR (Yld.move hS rfl) (by decide) ?_; clear hS; intro aa hS
        refine sA hS hR (Yld.extract hS rfl rfl) (by decide) ?_; clear hS; intro aa hS
        refine sA hS hR (Yld.extract hS rfl rfl) (by decide) ?_; clear hS; intro aa hS
        refine sA hS hR (Yld.assign hS rfl) (by decide) ?_; clear hS; intro aa hS
        refine sA hS hR (Yld.assign hS rfl) (by decide) ?_; clear hS; intro aa hS
        refine wpList_nil ?_
        refine hK460 _ _ ?_
        refine wp_seq_k ?_; intro K461 hK461
        refine wp_region_lit ?_
        refine sA hS hR (Yld.move hS rfl) (by decide) ?_; clear hS; intro aa hS
        refine sA hS hR (Yld.fieldAddr hS rfl 1 Try.underlying50 rfl rfl info3 (by decide)) (by decide) ?_; clear hS; intro aa hS
        refine sA hS hR (Yld.load1 hS rfl Try.underlying3 rfl (by first | exact Rd.blk (by repeat (first | with_reducible exact Pk.here | with_reducible apply Pk.there)) (by rfl) | exact Rd.rec (by repeat (first | with_reducible exact Pk.here | with_reducible apply Pk.there)) (by intro _; rfl) (by omega) rfl | exact Rd.rec0 (by repeat (first | with_reducible exact Pk.here | with_reducible apply Pk.there)) (by intro _; rfl) (by omega) rfl | exact Rd.flatJ (by repeat (first | with_reducible exact Pk.here | with_reducible apply Pk.there)) (by intro _; rfl) (by omega) rfl | exact Rd.flat0 (by repeat (first | with_reducible exact Pk.here | with_reducible apply Pk.there)) (by intro _; rfl) (by omega) rfl)) (by decide) ?_; clear hS; intro aa hS
        refine sB (Bcall hS rfl Try.call38 (USee_ok (ord := ord) (T := T) h1 (by omega) (i := s0) hn (hR.pk (r := rluA _ _ _ _ _ _) (by repeat (first | with_reducible exact Pk.here | with_reducible apply Pk.there)))) (by decide) ?_); clear hS; intro aa ww vv hS hp
        clear hR
        obtain ⟨rfl, hR⟩ := hp
        rw [hv] at hS
        have hL2 := hLS.seeI (s := s0) hn.1
        have hb9 := seeN_bd (S := S) (now := now) (s := s0)
        refine sA hS hR (Yld.move hS rfl) (by decide) ?_; clear hS; intro aa hS
        refine sA hS hR (Yld.extract hS rfl rfl) (by decide) ?_; clear hS; intro aa hS
        refine sA hS hR (Yld.extract hS rfl rfl) (by decide) ?_; clear hS; intro aa hS
        refine sA hS hR (Yld.assign hS rfl) (by decide) ?_; clear hS; intro aa hS
        refine sA hS hR (Yld.assign hS rfl) (by decide) ?_; clear hS; intro aa hS
        refine wpList_nil ?_
        refine hK461 _ _ ?_
        refine wp_seq_k ?_; intro K462 hK462
        refine wp_region_lit ?_
        refine sA hS hR (Yld.move hS rfl) (by decide) ?_; clear hS; intro aa hS
        refine sA hS hR (Yld.move hS rfl) (by decide) ?_; clear hS; intro aa hS
        refine sA hS hR (Yld.eql hS rfl rfl) (by decide) ?_; clear hS; intro aa hS
        replace hS := hS.sayB (t := 36) true rfl (by simp)
        refine sA hS hR (Yld.move hS rfl) (by decide) ?_; clear hS; intro aa hS
        refine sAg hS hR rfl rfl (Yld.move hS rfl) (by decide) ?_; clear hS; intro aa hS
        refine sAg hS hR rfl rfl (Yld.move hS rfl) (by decide) ?_; clear hS; intro aa hS
        refine sAg hS hR rfl rfl (Yld.eql hS rfl rfl) (by decide) ?_; clear hS; intro aa hS
        replace hS := hS.sayB (t := 40) true rfl (by simp)
        refine sA hS hR (Yld.pickT hS rfl rfl) (by decide) ?_; clear hS; intro aa hS
        refine sA hS hR (Yld.assign hS rfl) (by decide) ?_; clear hS; intro aa hS
        refine wpList_nil ?_
        refine hK462 _ _ ?_
        refine wp_ret ?_
        repeat (first | with_reducible refine thenR ?_ | with_reducible refine blockR ?_ | with_reducible refine scopeR ?_)
        refine ret1 (fn := Try.f24) (e := .ret) (.inl rfl) Try.results24 hS hR ⟨_, (.tmp rfl), ?_⟩
        exact ⟨_, _, _, _, rfl, hL2, by omega, by omega, (hR.sub (by repeat (first | with_reducible exact Ex.refl | (with_reducible apply Ex.take; · repeat (first | with_reducible exact Pk.here | with_reducible apply Pk.there)) | with_reducible apply Ex.drop)))⟩
      · intro hg hS
        refine condF hS rfl ?_
        refine wp_seq_k ?_; intro K463 hK463
        refine wp_region_lit ?_
        refine sA hS hR (Yld.eql hS rfl rfl) (by decide) ?_; clear hS; intro aa hS
        refine sA hS hR (Yld.assign hS rfl) (by decide) ?_; clear hS; intro aa hS
        refine wpList_nil ?_
        refine hK463 _ _ ?_
        refine hS.splitB (t := 42) rfl ?_ ?_ <;> clear hS
        · intro hg hS
          refine condT hS rfl ?_
          refine wp_seq_k ?_; intro K464 hK464
          refine drawn (by kernel_rfl) hR (Ex.of_pk2 (r := lruA _ _ _ _ _ _ _ _ _) (s := rluA _ _ _ _ _ _) (by repeat (first | with_reducible exact Pk.here | with_reducible apply Pk.there)) (by repeat (first | with_reducible exact Pk.here | with_reducible apply Pk.there))) ?_; clear hR; intro ww hR hR0
          refine dA 0 rfl (by kernel_rfl) (by kernel_rfl) (by kernel_rfl) (fun _ _ _ h => h) hS hR0 (Yld.move hS rfl) (by decide) ?_; clear hS; intro aa hS
          refine dA 1 rfl (by kernel_rfl) (by kernel_rfl) (by kernel_rfl) (fun _ _ _ h => h) hS hR0 (Yld.fieldAddr hS rfl 1 Try.underlying50 rfl rfl info3 (by decide)) (by decide) ?_; clear hS; intro aa hS
          refine dA 2 rfl (by kernel_rfl) (by kernel_rfl) (by kernel_rfl) (fun _ _ _ h => h) hS hR0 (Yld.load1 hS rfl Try.underlying3 rfl (by first | exact Rd.blk (by repeat (first | with_reducible exact Pk.here | with_reducible apply Pk.there)) (by rfl) | exact Rd.rec (by repeat (first | with_reducible exact Pk.here | with_reducible apply Pk.there)) (by intro _; rfl) (by omega) rfl | exact Rd.rec0 (by repeat (first | with_reducible exact Pk.here | with_reducible apply Pk.there)) (by intro _; rfl) (by omega) rfl | exact Rd.flatJ (by repeat (first | with_reducible exact Pk.here | with_reducible apply Pk.there)) (by intro _; rfl) (by omega) rfl | exact Rd.flat0 (by repeat (first | with_reducible exact Pk.here | with_reducible apply Pk.there)) (by intro _; rfl) (by omega) rfl)) (by decide) ?_; clear hS; intro aa hS
          refine dA 4 rfl (by kernel_rfl) (by kernel_rfl) (by kernel_rfl) (fun _ _ _ h => h) hS hR0 (Yld.move hS rfl) (by decide) ?_; clear hS; intro aa hS
          refine dA 5 rfl (by kernel_rfl) (by kernel_rfl) (by kernel_rfl) (fun _ _ _ h => h) hS hR0 (Yld.fieldAddr hS rfl 1 Try.underlying50 rfl rfl info3 (by decide)) (by decide) ?_; clear hS; intro aa hS
          refine dA 6 rfl (by kernel_rfl) (by kernel_rfl) (by kernel_rfl) (fun _ _ _ h => h) hS hR0 (Yld.load1 hS rfl Try.underlying3 rfl (by first | exact Rd.blk (by repeat (first | with_reducible exact Pk.here | with_reducible apply Pk.there)) (by rfl) | exact Rd.rec (by repeat (first | with_reducible exact Pk.here | with_reducible apply Pk.there)) (by intro _; rfl) (by omega) rfl | exact Rd.rec0 (by repeat (first | with_reducible exact Pk.here | with_reducible apply Pk.there)) (by intro _; rfl) (by omega) rfl | exact Rd.flatJ (by repeat (first | with_reducible exact Pk.here | with_reducible apply Pk.there)) (by intro _; rfl) (by omega) rfl | exact Rd.flat0 (by repeat (first | with_reducible exact Pk.here | with_reducible apply Pk.there)) (by intro _; rfl) (by omega) rfl)) (by decide) ?_; clear hS; intro aa hS
          refine dOne (i := 3) (by kernel_rfl) ?_
          refine dop rfl (Bcall hS rfl Try.call13 (lrOut_ok (i := s0) (hR.pk (r := lruA _ _ _ _ _ _ _ _ _) (by repeat (first | with_reducible exact Pk.here | with_reducible apply Pk.there)))) (by decide) ?_); clear hS; intro aa ww vv hS hp
          clear hR hR0
          obtain ⟨rfl, hR⟩ := hp
          refine dnext (hR.sub (by repeat (first | with_reducible exact Ex.refl | (with_reducible apply Ex.take; · repeat (first | with_reducible exact Pk.here | with_reducible apply Pk.there)) | with_reducible apply Ex.drop))) ?_; intro hR0
          refine dOne (i := 7) (by kernel_rfl) ?_
          refine dop rfl (Bcall hS rfl Try.call39 (UOut_ok h1 (by omega) (i := s0) hLS (hR.pk (r := rluA _ _ _ _ _ _) (by repeat (first | with_reducible exact Pk.here | with_reducible apply Pk.there)))) (by decide) ?_); clear hS; intro aa ww vv hS hp
          clear hR hR0
          obtain ⟨rfl, tm2, hL2, hR⟩ := hp
          refine dnext (hR.sub (by repeat (first | with_reducible exact Ex.refl | (with_reducible apply Ex.take; · repeat (first | with_reducible exact Pk.here | with_reducible apply Pk.there)) | with_reducible apply Ex.drop))) ?_; intro hR0
          refine dA 8 rfl (by kernel_rfl) (by kernel_rfl) (by kernel_rfl) (fun _ _ _ h => h) hS hR0 (Yld.eql hS rfl rfl) (by decide) ?_; clear hS; intro aa hS
          replace hS := hS.sayB (t := 52) true rfl (by simp)
          refine dA 9 rfl (by kernel_rfl) (by kernel_rfl) (by kernel_rfl) (fun _ _ _ h => h) hS hR0 (Yld.assign hS rfl) (by decide) ?_; clear hS; intro aa hS
          refine wpAnyH_done (by kernel_rfl) ?_ _; clear hR0
          refine hK464 _ _ ?_
          refine wp_ret ?_
          repeat (first | with_reducible refine thenR ?_ | with_reducible refine blockR ?_ | with_reducible refine scopeR ?_)
          refine ret1 (fn := Try.f24) (e := .ret) (.inl rfl) Try.results24 hS hR ⟨_, (.tmp rfl), ?_⟩
          exact ⟨_, _, _, _, rfl, hL2, by omega, by omega, (hR.sub (by repeat (first | with_reducible exact Ex.refl | (with_reducible apply Ex.take; · repeat (first | with_reducible exact Pk.here | with_reducible apply Pk.there)) | with_reducible apply Ex.drop)))⟩
        · intro hg hS
          refine condF hS rfl ?_
          refine wp_skip ?_
          refine hK449 _ _ ?_
          refine wp_seq_k ?_; intro K465 hK465
          refine wp_region_lit ?_
          refine sA hS hR (Yld.move hS rfl) (by decide) ?_; clear hS; intro aa hS
          refine sB (Bcall hS rfl Try.call11 (lrAll_ok (hR.pk (r := lruA _ _ _ _ _ _ _ _ _) (by repeat (first | with_reducible exact Pk.here | with_reducible apply Pk.there)))) (by decide) ?_); clear hS; intro aa ww vv hS hp
          clear hR
          obtain ⟨ra, ca, rfl, hR⟩ := hp
          obtain ⟨Z, hZ⟩ : ∃ z, cst ord = z := ⟨_, rfl⟩
          rw [hZ] at hS hR
          have hZl : Z.length ≤ 4096 := by rw [← hZ, cst_len]; exact Nat.le_trans (nodup_len hLS.nd hLS.lt) h2
          refine sA hS hR (Yld.assign hS rfl) (by decide) ?_; clear hS; intro aa hS
          refine wpList_nil ?_
          refine hK465 _ _ ?_
          refine wp_seq_k ?_; intro K466 hK466
          refine wp_seq_k ?_; intro K467 hK467
          refine wp_region_lit ?_
          refine sA hS hR (Yld.move hS rfl) (by decide) ?_; clear hS; intro aa hS
          refine sA hS hR (Yld.len hS rfl Try.underlying27) (by decide) ?_; clear hS; intro aa hS
          refine sA hS hR (Yld.move hS rfl) (by decide) ?_; clear hS; intro aa hS
          refine wpList_nil ?_
          refine hK467 _ _ ?_
          refine wp_block ?_
          replace hR := hR.pk (r := sls ra Z.length ca 3 1 (Z.flatMap e1)) (by repeat (first | with_reducible exact Pk.here | with_reducible apply Pk.there))
          refine loopI (X := Nat × List Int) [(6, _), (11, _), (56, _)] (fun x => [(57, .int .i64 (x.1 : Int))]) (fun x => [sls ra Z.length ca 3 1 (x.2.flatMap e1)]) _ (fun x => x.1 ≤ Z.length ∧ x.2.length = Z.length) (fun x => Z.length - x.1) (0, Z) ⟨Nat.zero_le _, rfl⟩ (hS.le (Le.cons rfl (Le.nilapp (Le.cons rfl (Le.cons rfl (Le.cons rfl (Le.nil _))))))) hR ?_
          clear hS hR; rintro ⟨i, Y⟩ aa ww hI hS hR; dsimp only [List.cons_append, List.nil_append] at hI hS hR
          refine wp_seq_k ?_; intro K469 hK469
          refine wp_region_lit ?_
          refine sA hS hR (Yld.lss hS rfl rfl) (by decide) ?_; clear hS; intro aa hS
          refine wpList_nil ?_
          refine hK469 _ _ ?_
          refine wp_seq_k ?_; intro K470 hK470
          refine hS.splitB (t := 58) rfl ?_ ?_ <;> clear hS
          · intro hg hS
            refine condT hS rfl ?_
            refine wp_skip ?_
            refine hK470 _ _ ?_
            refine wp_seq_k ?_; intro K471 hK471
            refine wp_block ?_
            refine wp_seq_k ?_; intro K472 hK472
            refine wp_region_lit ?_
            refine sA hS hR (Yld.move hS rfl) (by decide) ?_; clear hS; intro aa hS
            refine sA hS hR (Yld.assign hS rfl) (by decide) ?_; clear hS; intro aa hS
            refine wpList_nil ?_
            refine hK472 _ _ ?_
            refine wp_region_lit ?_
            refine sA hS hR (Yld.move hS rfl) (by decide) ?_; clear hS; intro aa hS
            refine sA hS hR (Yld.move hS rfl) (by decide) ?_; clear hS; intro aa hS
            refine sA hS hR ((by first | exact Yld.indexH (sz := 1) (i) hS rfl rfl Try.underlying27 info3 (by assumption) rfl (by first | rfl | omega) (by omega) | exact Yld.indexL (sz := 1) (i) hS rfl rfl Try.underlying27 info3 (by repeat (first | with_reducible exact Pk.here | with_reducible apply Pk.there)) rfl (by first | rfl | omega) (by omega) | exact Yld.indexB (sz := 1) (i) hS rfl rfl Try.underlying27 info3 rfl (by first | rfl | omega) (by omega))) (by decide) ?_; clear hS; intro aa hS
            refine sA hS hR (Yld.load1 hS rfl Try.underlying3 rfl (by first | exact Rd.blk (by repeat (first | with_reducible exact Pk.here | with_reducible apply Pk.there)) (by rfl) | exact Rd.rec (by repeat (first | with_reducible exact Pk.here | with_reducible apply Pk.there)) (by intro _; rfl) (by omega) rfl | exact Rd.rec0 (by repeat (first | with_reducible exact Pk.here | with_reducible apply Pk.there)) (by intro _; rfl) (by omega) rfl | exact Rd.flatJ (by repeat (first | with_reducible exact Pk.here | with_reducible apply Pk.there)) (by intro _; rfl) (by omega) rfl | exact Rd.flat0 (by repeat (first | with_reducible exact Pk.here | with_reducible apply Pk.there)) (by intro _; rfl) (by omega) rfl)) (by decide) ?_; clear hS; intro aa hS
            refine sA hS hR (Yld.add hS rfl rfl) (by decide) ?_; clear hS; intro aa hS
            refine sA hS hR ((by first | exact Yld.indexH (sz := 1) (i) hS rfl rfl Try.underlying27 info3 (by assumption) rfl (by first | rfl | omega) (by omega) | exact Yld.indexL (sz := 1) (i) hS rfl rfl Try.underlying27 info3 (by repeat (first | with_reducible exact Pk.here | with_reducible apply Pk.there)) rfl (by first | rfl | omega) (by omega) | exact Yld.indexB (sz := 1) (i) hS rfl rfl Try.underlying27 info3 rfl (by first | rfl | omega) (by omega))) (by decide) ?_; clear hS; intro aa hS
            refine sB (BstoreR0 (_) hS hR rfl rfl (by rfl) info3 (by rfl) (by repeat (first | with_reducible exact Pk.here | with_reducible apply Pk.there)) (by rfl) (by intro _; rfl) (by omega) (by first | exact Nat.le_of_ble_eq_true rfl | (simp only [List.length_singleton]; omega)) (Nat.le_of_ble_eq_true rfl) (by rfl) ?_); clear hR; intro ww hR
            refine wpList_nil ?_
            refine hK471 _ _ ?_
            refine wp_region_lit ?_
            refine sA hS hR ((by first | exact Yld.add64 hS rfl rfl (by omega) | exact Yld.add hS rfl rfl)) (by decide) ?_; clear hS; intro aa hS
            refine sA hS hR (Yld.move hS rfl) (by decide) ?_; clear hS; intro aa hS
            refine wpList_nil ?_
            
            refine ⟨(i + 1, _), ?_, ?_, hS.le (Le.cons rfl (Le.nilapp (Le.cons rfl (Le.cons rfl (Le.cons rfl (Le.nil _)))))), hR.sub (Ex.take (by repeat (first | with_reducible exact Pk.here | with_reducible apply Pk.there)) (Ex.nilapp (by repeat (first | with_reducible exact Ex.refl | (with_reducible apply Ex.take; · repeat (first | with_reducible exact Pk.here | with_reducible apply Pk.there)) | with_reducible apply Ex.drop))))⟩
            · exact ⟨by omega, by rw [List.length_set]; exact hI.2⟩
            · dsimp only; omega
          · intro hg hS
            refine condF hS rfl ?_
            refine wp_exit ?_
            refine hK466 _ _ ?_
            refine wp_seq_k ?_; intro K473 hK473
            refine wp_region_lit ?_
            refine sA hS hR (Yld.assign hS rfl) (by decide) ?_; clear hS; intro aa hS
            refine wpList_nil ?_
            refine hK473 _ _ ?_
            refine wp_ret ?_
            repeat (first | with_reducible refine thenR ?_ | with_reducible refine blockR ?_ | with_reducible refine scopeR ?_)
            refine ret1 (fn := Try.f24) (e := .ret) (.inl rfl) Try.results24 hS hR ⟨_, (.tmp rfl), ?_⟩
            exact ⟨_, _, _, _, rfl, hLS, by omega, by omega, (hR.sub (by repeat (first | with_reducible exact Ex.refl | (with_reducible apply Ex.take; · repeat (first | with_reducible exact Pk.here | with_reducible apply Pk.there)) | with_reducible apply Ex.drop)))⟩
end Go.Proofs.Ytojeibjlkbffcaa.Sx
