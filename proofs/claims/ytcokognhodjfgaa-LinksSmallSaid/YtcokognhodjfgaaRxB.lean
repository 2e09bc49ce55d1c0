/-
  
-/
import Derived.Test.YtcokognhodjfgaaRxA
namespace Go.Proofs.Ytcokognhodjfgaa.Sx
open Go
set_option linter.unusedVariables false
set_option linter.unusedSimpArgs false



set_option maxHeartbeats 2000000 in
set_option maxRecDepth 20000 in
theorem ROut_ok {S n b2 : Nat} {L : Nat → List Nat} {l : List HP} {w : World} {y0 : Int} (hWL : WL S n L) (hR : Sep (refA 70 27 3 b2 S n L :: l) w) : CallR Try.prog 38 [.pointer (some ⟨b2, 0, none⟩), .int .i64 y0] w (fun v w' => v = .int .i64 (outE S n L y0) ∧ Sep (refA 70 27 3 b2 S n (outS S n L y0) :: l) w') := by
  refine enter Try.func38 rfl Try.ntmps38 (Nat.le_of_ble_eq_true rfl) ?_; intro aa hS
  obtain ⟨ys, r2, c2, hys, hR⟩ := hR.refE
  have hn := (show 1 ≤ n ∧ n ≤ 4096 from ⟨hWL.n1, hWL.n2⟩)
  have hs1 := hWL.s1
  have hs2 := hWL.s2
  have hL : ∀ k, k < n → (L k).length ≤ 8192 := fun k hk => by have := hWL.len hk; omega
  have hyl := hys.len
  have hb2 : Bk r2 := (hR.pk (r := sls r2 _ _ _ _ _) (by repeat (first | with_reducible exact Pk.here | with_reducible apply Pk.there))).bk (by omega)
  have hnn := hn
  refine wp_seq_k ?_; intro K487 hK487
  refine wp_region_lit ?_
  refine sA hS hR (Yld.assign hS rfl) (by decide) ?_; clear hS; intro aa hS
  refine wpList_nil ?_
  refine hK487 _ _ ?_
  refine wp_seq_k ?_; intro K488 hK488
  refine wp_seq_k ?_; intro K489 hK489
  refine wp_region_lit ?_
  refine sA hS hR (Yld.move hS rfl) (by decide) ?_; clear hS; intro aa hS
  refine sA hS hR (Yld.lss hS rfl rfl) (by decide) ?_; clear hS; intro aa hS
  refine sA hS hR (Yld.move hS rfl) (by decide) ?_; clear hS; intro aa hS
  refine hS.splitB (t := 9) rfl ?_ ?_ <;> clear hS
  · intro hg hS
    refine sSkip hS rfl rfl rfl (by decide) ?_; clear hS; intro aa hS
    refine sSkip hS rfl rfl rfl (by decide) ?_; clear hS; intro aa hS
    refine sSkip hS rfl rfl rfl (by decide) ?_; clear hS; intro aa hS
    refine sSkip hS rfl rfl rfl (by decide) ?_; clear hS; intro aa hS
    refine sSkip hS rfl rfl rfl (by decide) ?_; clear hS; intro aa hS
    refine sSkip hS rfl rfl rfl (by decide) ?_; clear hS; intro aa hS
    refine sA hS hR (Yld.pickT hS rfl rfl) (by decide) ?_; clear hS; intro aa hS
    refine wpList_nil ?_
    refine hK489 _ _ ?_
    refine condT hS rfl ?_
    refine wp_seq_k ?_; intro K490 hK490
    refine wp_region_lit ?_
    refine sA hS hR (Yld.assign hS rfl) (by decide) ?_; clear hS; intro aa hS
    refine wpList_nil ?_
    refine hK490 _ _ ?_
    refine wp_ret ?_
    repeat (first | with_reducible refine thenR ?_ | with_reducible refine blockR ?_ | with_reducible refine scopeR ?_)
    refine ret1 (fn := Try.f38) (e := .ret) (.inl rfl) Try.results38 hS hR ⟨_, (.tmp rfl), ?_⟩
    refine ⟨by rw [outE, if_pos (by omega)], ?_⟩
    exact Sep.refI (TR := 70) (TS := 27) (TI := 3) (S := S) (b2 := b2) (n := n) hys (by rw [outS, if_pos (by omega)]) rfl (hR.sub (by repeat (first | with_reducible exact Ex.refl | (with_reducible apply Ex.take; · repeat (first | with_reducible exact Pk.here | with_reducible apply Pk.there)) | with_reducible apply Ex.drop)))
  · intro hg hS
    refine sAg hS hR rfl rfl (Yld.move hS rfl) (by decide) ?_; clear hS; intro aa hS
    refine sAg hS hR rfl rfl (Yld.move hS rfl) (by decide) ?_; clear hS; intro aa hS
    refine sAg hS hR rfl rfl (Yld.nilCheck hS rfl) (by decide) ?_; clear hS; intro aa hS
    refine sAg hS hR rfl rfl (Yld.fieldAddr hS rfl 0 Try.underlying70 rfl rfl info3 (by decide)) (by decide) ?_; clear hS; intro aa hS
    refine sAg hS hR rfl rfl (Yld.load1 hS rfl Try.underlying3 rfl (by first | exact Rd.blk (by repeat (first | with_reducible exact Pk.here | with_reducible apply Pk.there)) (by rfl) | exact Rd.rec (by repeat (first | with_reducible exact Pk.here | with_reducible apply Pk.there)) (by intro _; rfl) (by omega) rfl | exact Rd.rec0 (by repeat (first | with_reducible exact Pk.here | with_reducible apply Pk.there)) (by intro _; rfl) (by omega) rfl | exact Rd.flatJ (by repeat (first | with_reducible exact Pk.here | with_reducible apply Pk.there)) (by intro _; rfl) (by omega) rfl | exact Rd.flat0 (by repeat (first | with_reducible exact Pk.here | with_reducible apply Pk.there)) (by intro _; rfl) (by omega) rfl)) (by decide) ?_; clear hS; intro aa hS
    refine sAg hS hR rfl rfl (Yld.geq hS rfl rfl) (by decide) ?_; clear hS; intro aa hS
    refine sA hS hR (Yld.pickF hS rfl rfl) (by decide) ?_; clear hS; intro aa hS
    refine wpList_nil ?_
    refine hK489 _ _ ?_
    refine hS.splitB (t := 16) rfl ?_ ?_ <;> clear hS
    · intro hg hS
      refine condT hS rfl ?_
      refine wp_seq_k ?_; intro K491 hK491
      refine wp_region_lit ?_
      refine sA hS hR (Yld.assign hS rfl) (by decide) ?_; clear hS; intro aa hS
      refine wpList_nil ?_
      refine hK491 _ _ ?_
      refine wp_ret ?_
      repeat (first | with_reducible refine thenR ?_ | with_reducible refine blockR ?_ | with_reducible refine scopeR ?_)
      refine ret1 (fn := Try.f38) (e := .ret) (.inl rfl) Try.results38 hS hR ⟨_, (.tmp rfl), ?_⟩
      refine ⟨by rw [outE, if_pos (by omega)], ?_⟩
      exact Sep.refI (TR := 70) (TS := 27) (TI := 3) (S := S) (b2 := b2) (n := n) hys (by rw [outS, if_pos (by omega)]) rfl (hR.sub (by repeat (first | with_reducible exact Ex.refl | (with_reducible apply Ex.take; · repeat (first | with_reducible exact Pk.here | with_reducible apply Pk.there)) | with_reducible apply Ex.drop)))
    · intro hg hS
      obtain ⟨y0, rfl⟩ : ∃ z9 : Nat, y0 = z9 := ⟨(y0).toNat, by omega⟩
      have hy : y0 < S := by omega
      refine condF hS rfl ?_
      refine wp_skip ?_
      refine hK488 _ _ ?_
      refine wp_seq_k ?_; intro K492 hK492
      refine wp_region_lit ?_
      refine sA hS hR (Yld.move hS rfl) (by decide) ?_; clear hS; intro aa hS
      refine sA hS hR (Yld.move hS rfl) (by decide) ?_; clear hS; intro aa hS
      by_cases hn : (ofL n L y0).isSome = true
      ·
        refine sB (Bcall hS rfl Try.call40 (ROf_ok (v0 := (y0 : Int)) hys hnn hL (((hR.pk (r := rowsH _ _) (by repeat (first | with_reducible exact Pk.here | with_reducible apply Pk.there))).pk (r := sls r2 _ _ _ _ _) (by repeat (first | with_reducible exact Pk.here | with_reducible apply Pk.there))).pk (r := blk b2 _ _) (by repeat (first | with_reducible exact Pk.here | with_reducible apply Pk.there)))) (by decide) ?_); clear hS; intro aa ww vv hS hp
        clear hR
        obtain ⟨rfl, hR⟩ := hp
        have hn9 := hn
        obtain ⟨i, hi0⟩ := Option.isSome_iff_exists.1 hn9
        rw [show posV n L (y0 : Int) = .tuple [.int .i64 (i : Int), .int .i64 (((cst (L i)).idxOf (y0 : Int) : Nat) : Int)].toArray from by rw [posV, ofI_ofL, hi0]] at hS
        have hi := (ofL_mem hi0).1
        have hm := (ofL_mem hi0).2
        obtain ⟨rr, cr, hrow⟩ := hys.get (k := i) (by omega)
        obtain ⟨zs, hzs⟩ : ∃ z, cst (L i) = z := ⟨_, rfl⟩
        rw [hzs] at hrow
        have hzl : zs.length ≤ 8192 := by rw [← hzs, cst_len]; exact hL i hi
        rw [hzs] at hS
        obtain ⟨k, hk⟩ : ∃ k, zs.idxOf (y0 : Int) = k := ⟨_, rfl⟩
        rw [hk] at hS
        have hkl : k < zs.length := by rw [← hk]; exact List.idxOf_lt_length_of_mem (by rw [← hzs]; exact mem_cstN.2 hm)
        have hrc := (hR.pk (r := rowsH _ _) (by repeat (first | with_reducible exact Pk.here | with_reducible apply Pk.there))).rowLe hrow
        have her : zs.take k ++ zs.drop (k + 1) = cst ((L i).erase y0) := by rw [← cst_erase hm, hzs, hk]
        refine sA hS hR (Yld.move hS rfl) (by decide) ?_; clear hS; intro aa hS
        refine sA hS hR (Yld.extract hS rfl rfl) (by decide) ?_; clear hS; intro aa hS
        refine sA hS hR (Yld.extract hS rfl rfl) (by decide) ?_; clear hS; intro aa hS
        refine sA hS hR (Yld.assign hS rfl) (by decide) ?_; clear hS; intro aa hS
        refine sA hS hR (Yld.assign hS rfl) (by decide) ?_; clear hS; intro aa hS
        refine wpList_nil ?_
        refine hK492 _ _ ?_
        refine wp_seq_k ?_; intro K493 hK493
        refine wp_seq_k ?_; intro K494 hK494
        refine wp_region_lit ?_
        refine sA hS hR (Yld.move hS rfl) (by decide) ?_; clear hS; intro aa hS
        refine sA hS hR (Yld.lss hS rfl rfl) (by decide) ?_; clear hS; intro aa hS
        replace hS := hS.sayB (t := 24) false rfl (by exact decide_eq_false (by omega))
        refine wpList_nil ?_
        refine hK494 _ _ ?_
        refine condF hS rfl ?_
        refine wp_skip ?_
        refine hK493 _ _ ?_
        refine wp_seq_k ?_; intro K495 hK495
        refine drawn (by kernel_rfl) hR (Ex.of_pk (r := sls r2 _ _ _ _ _) (by repeat (first | with_reducible exact Pk.here | with_reducible apply Pk.there))) ?_; clear hR; intro ww hR hR0
        refine dA 0 rfl (by kernel_rfl) (by kernel_rfl) (by kernel_rfl) (fun _ _ _ h => h) hS hR0 (Yld.move hS rfl) (by decide) ?_; clear hS; intro aa hS
        refine dA 1 rfl (by kernel_rfl) (by kernel_rfl) (by kernel_rfl) (fun _ _ _ h => h) hS hR0 (Yld.nilCheck hS rfl) (by decide) ?_; clear hS; intro aa hS
        refine dA 2 rfl (by kernel_rfl) (by kernel_rfl) (by kernel_rfl) (fun _ _ _ h => h) hS hR0 (Yld.fieldAddr hS rfl 1 Try.underlying70 rfl rfl info26 (by decide)) (by decide) ?_; clear hS; intro aa hS
        refine dA 3 rfl (by kernel_rfl) (by kernel_rfl) (by kernel_rfl) (fun _ _ _ h => h) hS hR0 (Yld.load1 hS rfl Try.underlying26 rfl (by first | exact Rd.blk (by repeat (first | with_reducible exact Pk.here | with_reducible apply Pk.there)) (by rfl) | exact Rd.rec (by repeat (first | with_reducible exact Pk.here | with_reducible apply Pk.there)) (by intro _; rfl) (by omega) rfl | exact Rd.rec0 (by repeat (first | with_reducible exact Pk.here | with_reducible apply Pk.there)) (by intro _; rfl) (by omega) rfl | exact Rd.flatJ (by repeat (first | with_reducible exact Pk.here | with_reducible apply Pk.there)) (by intro _; rfl) (by omega) rfl | exact Rd.flat0 (by repeat (first | with_reducible exact Pk.here | with_reducible apply Pk.there)) (by intro _; rfl) (by omega) rfl)) (by decide) ?_; clear hS; intro aa hS
        refine dA 4 rfl (by kernel_rfl) (by kernel_rfl) (by kernel_rfl) (fun _ _ _ h => h) hS hR0 (Yld.move hS rfl) (by decide) ?_; clear hS; intro aa hS
        refine dA 6 rfl (by kernel_rfl) (by kernel_rfl) (by kernel_rfl) (fun _ _ _ h => h) hS hR0 (Yld.move hS rfl) (by decide) ?_; clear hS; intro aa hS
        refine dA 7 rfl (by kernel_rfl) (by kernel_rfl) (by kernel_rfl) (fun _ _ _ h => h) hS hR0 (Yld.nilCheck hS rfl) (by decide) ?_; clear hS; intro aa hS
        refine dA 8 rfl (by kernel_rfl) (by kernel_rfl) (by kernel_rfl) (fun _ _ _ h => h) hS hR0 (Yld.fieldAddr hS rfl 1 Try.underlying70 rfl rfl info26 (by decide)) (by decide) ?_; clear hS; intro aa hS
        refine dA 9 rfl (by kernel_rfl) (by kernel_rfl) (by kernel_rfl) (fun _ _ _ h => h) hS hR0 (Yld.load1 hS rfl Try.underlying26 rfl (by first | exact Rd.blk (by repeat (first | with_reducible exact Pk.here | with_reducible apply Pk.there)) (by rfl) | exact Rd.rec (by repeat (first | with_reducible exact Pk.here | with_reducible apply Pk.there)) (by intro _; rfl) (by omega) rfl | exact Rd.rec0 (by repeat (first | with_reducible exact Pk.here | with_reducible apply Pk.there)) (by intro _; rfl) (by omega) rfl | exact Rd.flatJ (by repeat (first | with_reducible exact Pk.here | with_reducible apply Pk.there)) (by intro _; rfl) (by omega) rfl | exact Rd.flat0 (by repeat (first | with_reducible exact Pk.here | with_reducible apply Pk.there)) (by intro _; rfl) (by omega) rfl)) (by decide) ?_; clear hS; intro aa hS
        refine dA 10 rfl (by kernel_rfl) (by kernel_rfl) (by kernel_rfl) (fun _ _ _ h => h) hS hR0 (Yld.move hS rfl) (by decide) ?_; clear hS; intro aa hS
        refine dA 11 rfl (by kernel_rfl) (by kernel_rfl) (by kernel_rfl) (fun _ _ _ h => h) hS hR0 ((by first | exact Yld.indexH (sz := 1) (i) hS rfl rfl Try.underlying26 info27 (by assumption) rfl (by first | rfl | omega) (by omega) | exact Yld.indexL (sz := 1) (i) hS rfl rfl Try.underlying26 info27 (by repeat (first | with_reducible exact Pk.here | with_reducible apply Pk.there)) rfl (by first | rfl | omega) (by omega) | exact Yld.indexB (sz := 1) (i) hS rfl rfl Try.underlying26 info27 rfl (by first | rfl | omega) (by omega))) (by decide) ?_; clear hS; intro aa hS
        refine dA 13 rfl (by kernel_rfl) (by kernel_rfl) (by kernel_rfl) (fun _ _ _ h => h) hS hR0 (Yld.move hS rfl) (by decide) ?_; clear hS; intro aa hS
        refine dA 16 rfl (by kernel_rfl) (by kernel_rfl) (by kernel_rfl) (fun _ _ _ h => h) hS hR0 (Yld.move hS rfl) (by decide) ?_; clear hS; intro aa hS
        refine dA 17 rfl (by kernel_rfl) (by kernel_rfl) (by kernel_rfl) (fun _ _ _ h => h) hS hR0 (Yld.nilCheck hS rfl) (by decide) ?_; clear hS; intro aa hS
        refine dA 18 rfl (by kernel_rfl) (by kernel_rfl) (by kernel_rfl) (fun _ _ _ h => h) hS hR0 (Yld.fieldAddr hS rfl 1 Try.underlying70 rfl rfl info26 (by decide)) (by decide) ?_; clear hS; intro aa hS
        refine dA 19 rfl (by kernel_rfl) (by kernel_rfl) (by kernel_rfl) (fun _ _ _ h => h) hS hR0 (Yld.load1 hS rfl Try.underlying26 rfl (by first | exact Rd.blk (by repeat (first | with_reducible exact Pk.here | with_reducible apply Pk.there)) (by rfl) | exact Rd.rec (by repeat (first | with_reducible exact Pk.here | with_reducible apply Pk.there)) (by intro _; rfl) (by omega) rfl | exact Rd.rec0 (by repeat (first | with_reducible exact Pk.here | with_reducible apply Pk.there)) (by intro _; rfl) (by omega) rfl | exact Rd.flatJ (by repeat (first | with_reducible exact Pk.here | with_reducible apply Pk.there)) (by intro _; rfl) (by omega) rfl | exact Rd.flat0 (by repeat (first | with_reducible exact Pk.here | with_reducible apply Pk.there)) (by intro _; rfl) (by omega) rfl)) (by decide) ?_; clear hS; intro aa hS
        refine dA 20 rfl (by kernel_rfl) (by kernel_rfl) (by kernel_rfl) (fun _ _ _ h => h) hS hR0 (Yld.move hS rfl) (by decide) ?_; clear hS; intro aa hS
        refine dA 21 rfl (by kernel_rfl) (by kernel_rfl) (by kernel_rfl) (fun _ _ _ h => h) hS hR0 ((by first | exact Yld.indexH (sz := 1) (i) hS rfl rfl Try.underlying26 info27 (by assumption) rfl (by first | rfl | omega) (by omega) | exact Yld.indexL (sz := 1) (i) hS rfl rfl Try.underlying26 info27 (by repeat (first | with_reducible exact Pk.here | with_reducible apply Pk.there)) rfl (by first | rfl | omega) (by omega) | exact Yld.indexB (sz := 1) (i) hS rfl rfl Try.underlying26 info27 rfl (by first | rfl | omega) (by omega))) (by decide) ?_; clear hS; intro aa hS
        refine dA 23 rfl (by kernel_rfl) (by kernel_rfl) (by kernel_rfl) (fun _ _ _ h => h) hS hR0 (Yld.move hS rfl) (by decide) ?_; clear hS; intro aa hS
        refine dA 24 rfl (by kernel_rfl) (by kernel_rfl) (by kernel_rfl) (fun _ _ _ h => h) hS hR0 ((by first | exact Yld.add64 hS rfl rfl (by omega) | exact Yld.add hS rfl rfl)) (by decide) ?_; clear hS; intro aa hS
        refine dThree (i := 5) (j := 12) (m := 22) (by kernel_rfl) ?_ ?_ ?_
        ·
          refine dop rfl (BbuildSlice hS hR rfl (bls27_0_) (by decide) ?_); clear hS hR hR0; intro aa ww bb30 hS hR
          refine dnext (hR.sub (by repeat (first | with_reducible exact Ex.refl | (with_reducible apply Ex.take; · repeat (first | with_reducible exact Pk.here | with_reducible apply Pk.there)) | with_reducible apply Ex.drop))) ?_; intro hR0
          replace hR := hR.pk (r := blk bb30 _ _) (by repeat (first | with_reducible exact Pk.here | with_reducible apply Pk.there))
          replace hR := Sep.toRecs (m := 0) (sz := 1) (enc := e1) (([] : List Int)) hR rfl (by intro _; rfl) rfl
          refine dTwo (i := 12) (j := 22) (by kernel_rfl) ?_ ?_
          ·
            refine dop rfl (BA hS hR (Yld.load1 hS rfl Try.underlying27 rfl (Rd.rec0 (k := i) (xs := ys) (v := .slice rr zs.length cr) (by repeat (first | with_reducible exact Pk.here | with_reducible apply Pk.there)) (by intro _; rfl) (by omega) (by rw [(List.getElem?_eq_some_iff.1 hrow).2]; rfl))) (by decide) ?_); clear hS; intro aa hS; refine ⟨hR0, ?_⟩
            refine dA 14 rfl (by kernel_rfl) (by kernel_rfl) (by kernel_rfl) (fun _ _ _ h => h) hS hR0 (Yld.sliceHi hS rfl rfl Try.underlying27 info3 (by omega) (by omega)) (by decide) ?_; clear hS; intro aa hS
            refine dTwo (i := 15) (j := 22) (by kernel_rfl) ?_ ?_
            ·
              refine dop rfl (BappendR (sz := 1) hS hR rfl rfl Try.underlying27 info3 rfl rfl (by rfl) (by repeat (first | with_reducible exact Pk.here | with_reducible apply Pk.there)) (XC.rowUpto (by repeat (first | with_reducible exact Pk.here | with_reducible apply Pk.there)) hrow (by omega)) (by intro _; rfl) (by show (_ + _) * 8 ≤ _; first | omega | (simp only [List.length_take, List.length_append, List.length_drop, List.length_cons, List.length_nil, List.length_map]; omega)) (by first | omega | (simp only [List.length_take, List.length_append, List.length_drop, List.length_cons, List.length_nil, List.length_map]; omega)) (by first | rfl | (simp; done) | (simp; omega)) (by decide) ?_); clear hS hR hR0; intro aa ww r40 c40 hS hR
              refine dnext (hR.sub (by repeat (first | with_reducible exact Ex.refl | (with_reducible apply Ex.take; · repeat (first | with_reducible exact Pk.here | with_reducible apply Pk.there)) | with_reducible apply Ex.drop))) ?_; intro hR0
              simp only [List.nil_append, Int.toNat_natCast] at hS hR
              refine dOne (i := 22) (by kernel_rfl) ?_
              refine dop rfl (BA hS hR (Yld.load1 hS rfl Try.underlying27 rfl (Rd.rec0 (k := i) (xs := ys) (v := .slice rr zs.length cr) (by repeat (first | with_reducible exact Pk.here | with_reducible apply Pk.there)) (by intro _; rfl) (by omega) (by rw [(List.getElem?_eq_some_iff.1 hrow).2]; rfl))) (by decide) ?_); clear hS; intro aa hS; refine ⟨hR0, ?_⟩
              refine dA 25 rfl (by kernel_rfl) (by kernel_rfl) (by kernel_rfl) (fun _ _ _ h => h) hS hR0 (Yld.sliceLo hS rfl rfl Try.underlying27 info3 (by omega) (by omega)) (by decide) ?_; clear hS; intro aa hS
              refine dOne (i := 26) (by kernel_rfl) ?_
              refine dop rfl (BappendR (sz := 1) hS hR rfl rfl Try.underlying27 info3 rfl rfl (by rfl) (by repeat (first | with_reducible exact Pk.here | with_reducible apply Pk.there)) (XC.rowPart (lo := ((k : Int) + 1).toNat) (by repeat (first | with_reducible exact Pk.here | with_reducible apply Pk.there)) hrow (by rfl) (by omega)) (by intro _; rfl) (by show (_ + _) * 8 ≤ _; first | omega | (simp only [List.length_take, List.length_append, List.length_drop, List.length_cons, List.length_nil, List.length_map]; omega)) (by first | omega | (simp only [List.length_take, List.length_append, List.length_drop, List.length_cons, List.length_nil, List.length_map]; omega)) (by first | rfl | (simp; done) | (simp; omega)) (by decide) ?_); clear hS hR hR0; intro aa ww r51 c51 hS hR
              refine dnext (hR.sub (by repeat (first | with_reducible exact Ex.refl | (with_reducible apply Ex.take; · repeat (first | with_reducible exact Pk.here | with_reducible apply Pk.there)) | with_reducible apply Ex.drop))) ?_; intro hR0
              have hcut : zs.take k ++ (zs.drop ((k : Int) + 1).toNat).take (zs.length - ((k : Int) + 1).toNat) = zs.take k ++ zs.drop (k + 1) := by rw [show ((k : Int) + 1).toNat = k + 1 from by omega, List.take_of_length_le (show (zs.drop (k + 1)).length ≤ zs.length - (k + 1) by simp)]
              rw [hcut] at hS hR
              refine dA 27 rfl (by kernel_rfl) (by kernel_rfl) (by kernel_rfl) (fun _ _ _ h => h) hS hR0 ((by first | exact Yld.indexH (sz := 1) (i) hS rfl rfl Try.underlying26 info27 (by assumption) rfl (by first | rfl | omega) (by omega) | exact Yld.indexL (sz := 1) (i) hS rfl rfl Try.underlying26 info27 (by repeat (first | with_reducible exact Pk.here | with_reducible apply Pk.there)) rfl (by first | rfl | omega) (by omega) | exact Yld.indexB (sz := 1) (i) hS rfl rfl Try.underlying26 info27 rfl (by first | rfl | omega) (by omega))) (by decide) ?_; clear hS; intro aa hS
              refine dOne (i := 28) (by kernel_rfl) ?_
              refine dop rfl (BstoreR0 (((r51, c51), zs.take k ++ zs.drop (k + 1))) hS hR rfl rfl (by rfl) info27 (by rfl) (by repeat (first | with_reducible exact Pk.here | with_reducible apply Pk.there)) (by rfl) (by intro _; rfl) (by omega) (by first | exact Nat.le_of_ble_eq_true rfl | (simp only [List.length_singleton]; omega)) (Nat.le_of_ble_eq_true rfl) (by rfl) ?_); clear hR hR0; intro ww hR
              refine dnext (hR.sub (by repeat (first | with_reducible exact Ex.refl | (with_reducible apply Ex.take; · repeat (first | with_reducible exact Pk.here | with_reducible apply Pk.there)) | with_reducible apply Ex.drop))) ?_; intro hR0
              replace hR := Sep.rowPut (TI := 3) (i := i) (xs := zs.take k ++ zs.drop (k + 1)) ((hR.pk (r := sls r51 _ _ _ _ _) (by repeat (first | with_reducible exact Pk.here | with_reducible apply Pk.there))).pk (r := rowsH _ _) (by repeat (first | with_reducible exact Pk.here | with_reducible apply Pk.there))) rfl (by omega)
              refine wpAnyH_done (by kernel_rfl) ?_ _; clear hR0
              refine hK495 _ _ ?_
              refine wp_seq_k ?_; intro K496 hK496
              refine wp_region_lit ?_
              refine sA hS hR (Yld.assign hS rfl) (by decide) ?_; clear hS; intro aa hS
              refine wpList_nil ?_
              refine hK496 _ _ ?_
              refine wp_ret ?_
              repeat (first | with_reducible refine thenR ?_ | with_reducible refine blockR ?_ | with_reducible refine scopeR ?_)
              refine ret1 (fn := Try.f38) (e := .ret) (.inl rfl) Try.results38 hS hR ⟨_, (.tmp rfl), ?_⟩
              refine ⟨by rw [outE_has hy hi0], ?_⟩
              exact Sep.refI (TR := 70) (TS := 27) (TI := 3) (S := S) (b2 := b2) (n := n) (m := ys.length) (hys.set (k := i) (M := (L i).erase y0) (p := (r51, c51)) (xs := zs.take k ++ zs.drop (k + 1)) hi her) (outS_has hy hi0).symm (by simp) (hR.sub (by repeat (first | with_reducible exact Ex.refl | (with_reducible apply Ex.take; · repeat (first | with_reducible exact Pk.here | with_reducible apply Pk.there)) | with_reducible apply Ex.drop)))
            ·
              refine dop rfl (BA hS hR (Yld.load1 hS rfl Try.underlying27 rfl (Rd.rec0 (k := i) (xs := ys) (v := .slice rr zs.length cr) (by repeat (first | with_reducible exact Pk.here | with_reducible apply Pk.there)) (by intro _; rfl) (by omega) (by rw [(List.getElem?_eq_some_iff.1 hrow).2]; rfl))) (by decide) ?_); clear hS; intro aa hS; refine ⟨hR0, ?_⟩
              refine dA 25 rfl (by kernel_rfl) (by kernel_rfl) (by kernel_rfl) (fun _ _ _ h => h) hS hR0 (Yld.sliceLo hS rfl rfl Try.underlying27 info3 (by omega) (by omega)) (by decide) ?_; clear hS; intro aa hS
              refine dOne (i := 15) (by kernel_rfl) ?_
              refine dop rfl (BappendR (sz := 1) hS hR rfl rfl Try.underlying27 info3 rfl rfl (by rfl) (by repeat (first | with_reducible exact Pk.here | with_reducible apply Pk.there)) (XC.rowUpto (by repeat (first | with_reducible exact Pk.here | with_reducible apply Pk.there)) hrow (by omega)) (by intro _; rfl) (by show (_ + _) * 8 ≤ _; first | omega | (simp only [List.length_take, List.length_append, List.length_drop, List.length_cons, List.length_nil, List.length_map]; omega)) (by first | omega | (simp only [List.length_take, List.length_append, List.length_drop, List.length_cons, List.length_nil, List.length_map]; omega)) (by first | rfl | (simp; done) | (simp; omega)) (by decide) ?_); clear hS hR hR0; intro aa ww r40 c40 hS hR
              refine dnext (hR.sub (by repeat (first | with_reducible exact Ex.refl | (with_reducible apply Ex.take; · repeat (first | with_reducible exact Pk.here | with_reducible apply Pk.there)) | with_reducible apply Ex.drop))) ?_; intro hR0
              simp only [List.nil_append, Int.toNat_natCast] at hS hR
              refine dOne (i := 26) (by kernel_rfl) ?_
              refine dop rfl (BappendR (sz := 1) hS hR rfl rfl Try.underlying27 info3 rfl rfl (by rfl) (by repeat (first | with_reducible exact Pk.here | with_reducible apply Pk.there)) (XC.rowPart (lo := ((k : Int) + 1).toNat) (by repeat (first | with_reducible exact Pk.here | with_reducible apply Pk.there)) hrow (by rfl) (by omega)) (by intro _; rfl) (by show (_ + _) * 8 ≤ _; first | omega | (simp only [List.length_take, List.length_append, List.length_drop, List.length_cons, List.length_nil, List.length_map]; omega)) (by first | omega | (simp only [List.length_take, List.length_append, List.length_drop, List.length_cons, List.length_nil, List.length_map]; omega)) (by first | rfl | (simp; done) | (simp; omega)) (by decide) ?_); clear hS hR hR0; intro aa ww r51 c51 hS hR
              refine dnext (hR.sub (by repeat (first | with_reducible exact Ex.refl | (with_reducible apply Ex.take; · repeat (first | with_reducible exact Pk.here | with_reducible apply Pk.there)) | with_reducible apply Ex.drop))) ?_; intro hR0
              have hcut : zs.take k ++ (zs.drop ((k : Int) + 1).toNat).take (zs.length - ((k : Int) + 1).toNat) = zs.take k ++ zs.drop (k + 1) := by rw [show ((k : Int) + 1).toNat = k + 1 from by omega, List.take_of_length_le (show (zs.drop (k + 1)).length ≤ zs.length - (k + 1) by simp)]
              rw [hcut] at hS hR
              refine dA 27 rfl (by kernel_rfl) (by kernel_rfl) (by kernel_rfl) (fun _ _ _ h => h) hS hR0 ((by first | exact Yld.indexH (sz := 1) (i) hS rfl rfl Try.underlying26 info27 (by assumption) rfl (by first | rfl | omega) (by omega) | exact Yld.indexL (sz := 1) (i) hS rfl rfl Try.underlying26 info27 (by repeat (first | with_reducible exact Pk.here | with_reducible apply Pk.there)) rfl (by first | rfl | omega) (by omega) | exact Yld.indexB (sz := 1) (i) hS rfl rfl Try.underlying26 info27 rfl (by first | rfl | omega) (by omega))) (by decide) ?_; clear hS; intro aa hS
              refine dOne (i := 28) (by kernel_rfl) ?_
              refine dop rfl (BstoreR0 (((r51, c51), zs.take k ++ zs.drop (k + 1))) hS hR rfl rfl (by rfl) info27 (by rfl) (by repeat (first | with_reducible exact Pk.here | with_reducible apply Pk.there)) (by rfl) (by intro _; rfl) (by omega) (by first | exact Nat.le_of_ble_eq_true rfl | (simp only [List.length_singleton]; omega)) (Nat.le_of_ble_eq_true rfl) (by rfl) ?_); clear hR hR0; intro ww hR
              refine dnext (hR.sub (by repeat (first | with_reducible exact Ex.refl | (with_reducible apply Ex.take; · repeat (first | with_reducible exact Pk.here | with_reducible apply Pk.there)) | with_reducible apply Ex.drop))) ?_; intro hR0
              replace hR := Sep.rowPut (TI := 3) (i := i) (xs := zs.take k ++ zs.drop (k + 1)) ((hR.pk (r := sls r51 _ _ _ _ _) (by repeat (first | with_reducible exact Pk.here | with_reducible apply Pk.there))).pk (r := rowsH _ _) (by repeat (first | with_reducible exact Pk.here | with_reducible apply Pk.there))) rfl (by omega)
              refine wpAnyH_done (by kernel_rfl) ?_ _; clear hR0
              refine hK495 _ _ ?_
              refine wp_seq_k ?_; intro K497 hK497
              refine wp_region_lit ?_
              refine sA hS hR (Yld.assign hS rfl) (by decide) ?_; clear hS; intro aa hS
              refine wpList_nil ?_
              refine hK497 _ _ ?_
              refine wp_ret ?_
              repeat (first | with_reducible refine thenR ?_ | with_reducible refine blockR ?_ | with_reducible refine scopeR ?_)
              refine ret1 (fn := Try.f38) (e := .ret) (.inl rfl) Try.results38 hS hR ⟨_, (.tmp rfl), ?_⟩
              refine ⟨by rw [outE_has hy hi0], ?_⟩
              exact Sep.refI (TR := 70) (TS := 27) (TI := 3) (S := S) (b2 := b2) (n := n) (m := ys.length) (hys.set (k := i) (M := (L i).erase y0) (p := (r51, c51)) (xs := zs.take k ++ zs.drop (k + 1)) hi her) (outS_has hy hi0).symm (by simp) (hR.sub (by repeat (first | with_reducible exact Ex.refl | (with_reducible apply Ex.take; · repeat (first | with_reducible exact Pk.here | with_reducible apply Pk.there)) | with_reducible apply Ex.drop)))
          ·
            refine dop rfl (BA hS hR (Yld.load1 hS rfl Try.underlying27 rfl (Rd.rec0 (k := i) (xs := ys) (v := .slice rr zs.length cr) (by repeat (first | with_reducible exact Pk.here | with_reducible apply Pk.there)) (by intro _; rfl) (by omega) (by rw [(List.getElem?_eq_some_iff.1 hrow).2]; rfl))) (by decide) ?_); clear hS; intro aa hS; refine ⟨hR0, ?_⟩
            refine dA 25 rfl (by kernel_rfl) (by kernel_rfl) (by kernel_rfl) (fun _ _ _ h => h) hS hR0 (Yld.sliceLo hS rfl rfl Try.underlying27 info3 (by omega) (by omega)) (by decide) ?_; clear hS; intro aa hS
            refine dOne (i := 12) (by kernel_rfl) ?_
            refine dop rfl (BA hS hR (Yld.load1 hS rfl Try.underlying27 rfl (Rd.rec0 (k := i) (xs := ys) (v := .slice rr zs.length cr) (by repeat (first | with_reducible exact Pk.here | with_reducible apply Pk.there)) (by intro _; rfl) (by omega) (by rw [(List.getElem?_eq_some_iff.1 hrow).2]; rfl))) (by decide) ?_); clear hS; intro aa hS; refine ⟨hR0, ?_⟩
            refine dA 14 rfl (by kernel_rfl) (by kernel_rfl) (by kernel_rfl) (fun _ _ _ h => h) hS hR0 (Yld.sliceHi hS rfl rfl Try.underlying27 info3 (by omega) (by omega)) (by decide) ?_; clear hS; intro aa hS
            refine dOne (i := 15) (by kernel_rfl) ?_
            refine dop rfl (BappendR (sz := 1) hS hR rfl rfl Try.underlying27 info3 rfl rfl (by rfl) (by repeat (first | with_reducible exact Pk.here | with_reducible apply Pk.there)) (XC.rowUpto (by repeat (first | with_reducible exact Pk.here | with_reducible apply Pk.there)) hrow (by omega)) (by intro _; rfl) (by show (_ + _) * 8 ≤ _; first | omega | (simp only [List.length_take, List.length_append, List.length_drop, List.length_cons, List.length_nil, List.length_map]; omega)) (by first | omega | (simp only [List.length_take, List.length_append, List.length_drop, List.length_cons, List.length_nil, List.length_map]; omega)) (by first | rfl | (simp; done) | (simp; omega)) (by decide) ?_); clear hS hR hR0; intro aa ww r40 c40 hS hR
            refine dnext (hR.sub (by repeat (first | with_reducible exact Ex.refl | (with_reducible apply Ex.take; · repeat (first | with_reducible exact Pk.here | with_reducible apply Pk.there)) | with_reducible apply Ex.drop))) ?_; intro hR0
            simp only [List.nil_append, Int.toNat_natCast] at hS hR
            refine dOne (i := 26) (by kernel_rfl) ?_
            refine dop rfl (BappendR (sz := 1) hS hR rfl rfl Try.underlying27 info3 rfl rfl (by rfl) (by repeat (first | with_reducible exact Pk.here | with_reducible apply Pk.there)) (XC.rowPart (lo := ((k : Int) + 1).toNat) (by repeat (first | with_reducible exact Pk.here | with_reducible apply Pk.there)) hrow (by rfl) (by omega)) (by intro _; rfl) (by show (_ + _) * 8 ≤ _; first | omega | (simp only [List.length_take, List.length_append, List.length_drop, List.length_cons, List.length_nil, List.length_map]; omega)) (by first | omega | (simp only [List.length_take, List.length_append, List.length_drop, List.length_cons, List.length_nil, List.length_map]; omega)) (by first | rfl | (simp; done) | (simp; omega)) (by decide) ?_); clear hS hR hR0; intro aa ww r51 c51 hS hR
            refine dnext (hR.sub (by repeat (first | with_reducible exact Ex.refl | (with_reducible apply Ex.take; · repeat (first | with_reducible exact Pk.here | with_reducible apply Pk.there)) | with_reducible apply Ex.drop))) ?_; intro hR0
            have hcut : zs.take k ++ (zs.drop ((k : Int) + 1).toNat).take (zs.length - ((k : Int) + 1).toNat) = zs.take k ++ zs.drop (k + 1) := by rw [show ((k : Int) + 1).toNat = k + 1 from by omega, List.take_of_length_le (show (zs.drop (k + 1)).length ≤ zs.length - (k + 1) by simp)]
            rw [hcut] at hS hR
            refine dA 27 rfl (by kernel_rfl) (by kernel_rfl) (by kernel_rfl) (fun _ _ _ h => h) hS hR0 ((by first | exact Yld.indexH (sz := 1) (i) hS rfl rfl Try.underlying26 info27 (by assumption) rfl (by first | rfl | omega) (by omega) | exact Yld.indexL (sz := 1) (i) hS rfl rfl Try.underlying26 info27 (by repeat (first | with_reducible exact Pk.here | with_reducible apply Pk.there)) rfl (by first | rfl | omega) (by omega) | exact Yld.indexB (sz := 1) (i) hS rfl rfl Try.underlying26 info27 rfl (by first | rfl | omega) (by omega))) (by decide) ?_; clear hS; intro aa hS
            refine dOne (i := 28) (by kernel_rfl) ?_
            refine dop rfl (BstoreR0 (((r51, c51), zs.take k ++ zs.drop (k + 1))) hS hR rfl rfl (by rfl) info27 (by rfl) (by repeat (first | with_reducible exact Pk.here | with_reducible apply Pk.there)) (by rfl) (by intro _; rfl) (by omega) (by first | exact Nat.le_of_ble_eq_true rfl | (simp only [List.length_singleton]; omega)) (Nat.le_of_ble_eq_true rfl) (by rfl) ?_); clear hR hR0; intro ww hR
            refine dnext (hR.sub (by repeat (first | with_reducible exact Ex.refl | (with_reducible apply Ex.take; · repeat (first | with_reducible exact Pk.here | with_reducible apply Pk.there)) | with_reducible apply Ex.drop))) ?_; intro hR0
            replace hR := Sep.rowPut (TI := 3) (i := i) (xs := zs.take k ++ zs.drop (k + 1)) ((hR.pk (r := sls r51 _ _ _ _ _) (by repeat (first | with_reducible exact Pk.here | with_reducible apply Pk.there))).pk (r := rowsH _ _) (by repeat (first | with_reducible exact Pk.here | with_reducible apply Pk.there))) rfl (by omega)
            refine wpAnyH_done (by kernel_rfl) ?_ _; clear hR0
            refine hK495 _ _ ?_
            refine wp_seq_k ?_; intro K498 hK498
            refine wp_region_lit ?_
            refine sA hS hR (Yld.assign hS rfl) (by decide) ?_; clear hS; intro aa hS
            refine wpList_nil ?_
            refine hK498 _ _ ?_
            refine wp_ret ?_
            repeat (first | with_reducible refine thenR ?_ | with_reducible refine blockR ?_ | with_reducible refine scopeR ?_)
            refine ret1 (fn := Try.f38) (e := .ret) (.inl rfl) Try.results38 hS hR ⟨_, (.tmp rfl), ?_⟩
            refine ⟨by rw [outE_has hy hi0], ?_⟩
            exact Sep.refI (TR := 70) (TS := 27) (TI := 3) (S := S) (b2 := b2) (n := n) (m := ys.length) (hys.set (k := i) (M := (L i).erase y0) (p := (r51, c51)) (xs := zs.take k ++ zs.drop (k + 1)) hi her) (outS_has hy hi0).symm (by simp) (hR.sub (by repeat (first | with_reducible exact Ex.refl | (with_reducible apply Ex.take; · repeat (first | with_reducible exact Pk.here | with_reducible apply Pk.there)) | with_reducible apply Ex.drop)))
        ·
          refine dop rfl (BA hS hR (Yld.load1 hS rfl Try.underlying27 rfl (Rd.rec0 (k := i) (xs := ys) (v := .slice rr zs.length cr) (by repeat (first | with_reducible exact Pk.here | with_reducible apply Pk.there)) (by intro _; rfl) (by omega) (by rw [(List.getElem?_eq_some_iff.1 hrow).2]; rfl))) (by decide) ?_); clear hS; intro aa hS; refine ⟨hR0, ?_⟩
          refine dA 14 rfl (by kernel_rfl) (by kernel_rfl) (by kernel_rfl) (fun _ _ _ h => h) hS hR0 (Yld.sliceHi hS rfl rfl Try.underlying27 info3 (by omega) (by omega)) (by decide) ?_; clear hS; intro aa hS
          refine dTwo (i := 5) (j := 22) (by kernel_rfl) ?_ ?_
          ·
            refine dop rfl (BbuildSlice hS hR rfl (bls27_0_) (by decide) ?_); clear hS hR hR0; intro aa ww bb30 hS hR
            refine dnext (hR.sub (by repeat (first | with_reducible exact Ex.refl | (with_reducible apply Ex.take; · repeat (first | with_reducible exact Pk.here | with_reducible apply Pk.there)) | with_reducible apply Ex.drop))) ?_; intro hR0
            replace hR := hR.pk (r := blk bb30 _ _) (by repeat (first | with_reducible exact Pk.here | with_reducible apply Pk.there))
            replace hR := Sep.toRecs (m := 0) (sz := 1) (enc := e1) (([] : List Int)) hR rfl (by intro _; rfl) rfl
            refine dTwo (i := 15) (j := 22) (by kernel_rfl) ?_ ?_
            ·
              refine dop rfl (BappendR (sz := 1) hS hR rfl rfl Try.underlying27 info3 rfl rfl (by rfl) (by repeat (first | with_reducible exact Pk.here | with_reducible apply Pk.there)) (XC.rowUpto (by repeat (first | with_reducible exact Pk.here | with_reducible apply Pk.there)) hrow (by omega)) (by intro _; rfl) (by show (_ + _) * 8 ≤ _; first | omega | (simp only [List.length_take, List.length_append, List.length_drop, List.length_cons, List.length_nil, List.length_map]; omega)) (by first | omega | (simp only [List.length_take, List.length_append, List.length_drop, List.length_cons, List.length_nil, List.length_map]; omega)) (by first | rfl | (simp; done) | (simp; omega)) (by decide) ?_); clear hS hR hR0; intro aa ww r40 c40 hS hR
              refine dnext (hR.sub (by repeat (first | with_reducible exact Ex.refl | (with_reducible apply Ex.take; · repeat (first | with_reducible exact Pk.here | with_reducible apply Pk.there)) | with_reducible apply Ex.drop))) ?_; intro hR0
              simp only [List.nil_append, Int.toNat_natCast] at hS hR
              refine dOne (i := 22) (by kernel_rfl) ?_
              refine dop rfl (BA hS hR (Yld.load1 hS rfl Try.underlying27 rfl (Rd.rec0 (k := i) (xs := ys) (v := .slice rr zs.length cr) (by repeat (first | with_reducible exact Pk.here | with_reducible apply Pk.there)) (by intro _; rfl) (by omega) (by rw [(List.getElem?_eq_some_iff.1 hrow).2]; rfl))) (by decide) ?_); clear hS; intro aa hS; refine ⟨hR0, ?_⟩
              refine dA 25 rfl (by kernel_rfl) (by kernel_rfl) (by kernel_rfl) (fun _ _ _ h => h) hS hR0 (Yld.sliceLo hS rfl rfl Try.underlying27 info3 (by omega) (by omega)) (by decide) ?_; clear hS; intro aa hS
              refine dOne (i := 26) (by kernel_rfl) ?_
              refine dop rfl (BappendR (sz := 1) hS hR rfl rfl Try.underlying27 info3 rfl rfl (by rfl) (by repeat (first | with_reducible exact Pk.here | with_reducible apply Pk.there)) (XC.rowPart (lo := ((k : Int) + 1).toNat) (by repeat (first | with_reducible exact Pk.here | with_reducible apply Pk.there)) hrow (by rfl) (by omega)) (by intro _; rfl) (by show (_ + _) * 8 ≤ _; first | omega | (simp only [List.length_take, List.length_append, List.length_drop, List.length_cons, List.length_nil, List.length_map]; omega)) (by first | omega | (simp only [List.length_take, List.length_append, List.length_drop, List.length_cons, List.length_nil, List.length_map]; omega)) (by first | rfl | (simp; done) | (simp; omega)) (by decide) ?_); clear hS hR hR0; intro aa ww r51 c51 hS hR
              refine dnext (hR.sub (by repeat (first | with_reducible exact Ex.refl | (with_reducible apply Ex.take; · repeat (first | with_reducible exact Pk.here | with_reducible apply Pk.there)) | with_reducible apply Ex.drop))) ?_; intro hR0
              have hcut : zs.take k ++ (zs.drop ((k : Int) + 1).toNat).take (zs.length - ((k : Int) + 1).toNat) = zs.take k ++ zs.drop (k + 1) := by rw [show ((k : Int) + 1).toNat = k + 1 from by omega, List.take_of_length_le (show (zs.drop (k + 1)).length ≤ zs.length - (k + 1) by simp)]
              rw [hcut] at hS hR
              refine dA 27 rfl (by kernel_rfl) (by kernel_rfl) (by kernel_rfl) (fun _ _ _ h => h) hS hR0 ((by first | exact Yld.indexH (sz := 1) (i) hS rfl rfl Try.underlying26 info27 (by assumption) rfl (by first | rfl | omega) (by omega) | exact Yld.indexL (sz := 1) (i) hS rfl rfl Try.underlying26 info27 (by repeat (first | with_reducible exact Pk.here | with_reducible apply Pk.there)) rfl (by first | rfl | omega) (by omega) | exact Yld.indexB (sz := 1) (i) hS rfl rfl Try.underlying26 info27 rfl (by first | rfl | omega) (by omega))) (by decide) ?_; clear hS; intro aa hS
              refine dOne (i := 28) (by kernel_rfl) ?_
              refine dop rfl (BstoreR0 (((r51, c51), zs.take k ++ zs.drop (k + 1))) hS hR rfl rfl (by rfl) info27 (by rfl) (by repeat (first | with_reducible exact Pk.here | with_reducible apply Pk.there)) (by rfl) (by intro _; rfl) (by omega) (by first | exact Nat.le_of_ble_eq_true rfl | (simp only [List.length_singleton]; omega)) (Nat.le_of_ble_eq_true rfl) (by rfl) ?_); clear hR hR0; intro ww hR
              refine dnext (hR.sub (by repeat (first | with_reducible exact Ex.refl | (with_reducible apply Ex.take; · repeat (first | with_reducible exact Pk.here | with_reducible apply Pk.there)) | with_reducible apply Ex.drop))) ?_; intro hR0
              replace hR := Sep.rowPut (TI := 3) (i := i) (xs := zs.take k ++ zs.drop (k + 1)) ((hR.pk (r := sls r51 _ _ _ _ _) (by repeat (first | with_reducible exact Pk.here | with_reducible apply Pk.there))).pk (r := rowsH _ _) (by repeat (first | with_reducible exact Pk.here | with_reducible apply Pk.there))) rfl (by omega)
              refine wpAnyH_done (by kernel_rfl) ?_ _; clear hR0
              refine hK495 _ _ ?_
              refine wp_seq_k ?_; intro K499 hK499
              refine wp_region_lit ?_
              refine sA hS hR (Yld.assign hS rfl) (by decide) ?_; clear hS; intro aa hS
              refine wpList_nil ?_
              refine hK499 _ _ ?_
              refine wp_ret ?_
              repeat (first | with_reducible refine thenR ?_ | with_reducible refine blockR ?_ | with_reducible refine scopeR ?_)
              refine ret1 (fn := Try.f38) (e := .ret) (.inl rfl) Try.results38 hS hR ⟨_, (.tmp rfl), ?_⟩
              refine ⟨by rw [outE_has hy hi0], ?_⟩
              exact Sep.refI (TR := 70) (TS := 27) (TI := 3) (S := S) (b2 := b2) (n := n) (m := ys.length) (hys.set (k := i) (M := (L i).erase y0) (p := (r51, c51)) (xs := zs.take k ++ zs.drop (k + 1)) hi her) (outS_has hy hi0).symm (by simp) (hR.sub (by repeat (first | with_reducible exact Ex.refl | (with_reducible apply Ex.take; · repeat (first | with_reducible exact Pk.here | with_reducible apply Pk.there)) | with_reducible apply Ex.drop)))
            ·
              refine dop rfl (BA hS hR (Yld.load1 hS rfl Try.underlying27 rfl (Rd.rec0 (k := i) (xs := ys) (v := .slice rr zs.length cr) (by repeat (first | with_reducible exact Pk.here | with_reducible apply Pk.there)) (by intro _; rfl) (by omega) (by rw [(List.getElem?_eq_some_iff.1 hrow).2]; rfl))) (by decide) ?_); clear hS; intro aa hS; refine ⟨hR0, ?_⟩
              refine dA 25 rfl (by kernel_rfl) (by kernel_rfl) (by kernel_rfl) (fun _ _ _ h => h) hS hR0 (Yld.sliceLo hS rfl rfl Try.underlying27 info3 (by omega) (by omega)) (by decide) ?_; clear hS; intro aa hS
              refine dOne (i := 15) (by kernel_rfl) ?_
              refine dop rfl (BappendR (sz := 1) hS hR rfl rfl Try.underlying27 info3 rfl rfl (by rfl) (by repeat (first | with_reducible exact Pk.here | with_reducible apply Pk.there)) (XC.rowUpto (by repeat (first | with_reducible exact Pk.here | with_reducible apply Pk.there)) hrow (by omega)) (by intro _; rfl) (by show (_ + _) * 8 ≤ _; first | omega | (simp only [List.length_take, List.length_append, List.length_drop, List.length_cons, List.length_nil, List.length_map]; omega)) (by first | omega | (simp only [List.length_take, List.length_append, List.length_drop, List.length_cons, List.length_nil, List.length_map]; omega)) (by first | rfl | (simp; done) | (simp; omega)) (by decide) ?_); clear hS hR hR0; intro aa ww r40 c40 hS hR
              refine dnext (hR.sub (by repeat (first | with_reducible exact Ex.refl | (with_reducible apply Ex.take; · repeat (first | with_reducible exact Pk.here | with_reducible apply Pk.there)) | with_reducible apply Ex.drop))) ?_; intro hR0
              simp only [List.nil_append, Int.toNat_natCast] at hS hR
              refine dOne (i := 26) (by kernel_rfl) ?_
              refine dop rfl (BappendR (sz := 1) hS hR rfl rfl Try.underlying27 info3 rfl rfl (by rfl) (by repeat (first | with_reducible exact Pk.here | with_reducible apply Pk.there)) (XC.rowPart (lo := ((k : Int) + 1).toNat) (by repeat (first | with_reducible exact Pk.here | with_reducible apply Pk.there)) hrow (by rfl) (by omega)) (by intro _; rfl) (by show (_ + _) * 8 ≤ _; first | omega | (simp only [List.length_take, List.length_append, List.length_drop, List.length_cons, List.length_nil, List.length_map]; omega)) (by first | omega | (simp only [List.length_take, List.length_append, List.length_drop, List.length_cons, List.length_nil, List.length_map]; omega)) (by first | rfl | (simp; done) | (simp; omega)) (by decide) ?_); clear hS hR hR0; intro aa ww r51 c51 hS hR
              refine dnext (hR.sub (by repeat (first | with_reducible exact Ex.refl | (with_reducible apply Ex.take; · repeat (first | with_reducible exact Pk.here | with_reducible apply Pk.there)) | with_reducible apply Ex.drop))) ?_; intro hR0
              have hcut : zs.take k ++ (zs.drop ((k : Int) + 1).toNat).take (zs.length - ((k : Int) + 1).toNat) = zs.take k ++ zs.drop (k + 1) := by rw [show ((k : Int) + 1).toNat = k + 1 from by omega, List.take_of_length_le (show (zs.drop (k + 1)).length ≤ zs.length - (k + 1) by simp)]
              rw [hcut] at hS hR
              refine dA 27 rfl (by kernel_rfl) (by kernel_rfl) (by kernel_rfl) (fun _ _ _ h => h) hS hR0 ((by first | exact Yld.indexH (sz := 1) (i) hS rfl rfl Try.underlying26 info27 (by assumption) rfl (by first | rfl | omega) (by omega) | exact Yld.indexL (sz := 1) (i) hS rfl rfl Try.underlying26 info27 (by repeat (first | with_reducible exact Pk.here | with_reducible apply Pk.there)) rfl (by first | rfl | omega) (by omega) | exact Yld.indexB (sz := 1) (i) hS rfl rfl Try.underlying26 info27 rfl (by first | rfl | omega) (by omega))) (by decide) ?_; clear hS; intro aa hS
              refine dOne (i := 28) (by kernel_rfl) ?_
              refine dop rfl (BstoreR0 (((r51, c51), zs.take k ++ zs.drop (k + 1))) hS hR rfl rfl (by rfl) info27 (by rfl) (by repeat (first | with_reducible exact Pk.here | with_reducible apply Pk.there)) (by rfl) (by intro _; rfl) (by omega) (by first | exact Nat.le_of_ble_eq_true rfl | (simp only [List.length_singleton]; omega)) (Nat.le_of_ble_eq_true rfl) (by rfl) ?_); clear hR hR0; intro ww hR
              refine dnext (hR.sub (by repeat (first | with_reducible exact Ex.refl | (with_reducible apply Ex.take; · repeat (first | with_reducible exact Pk.here | with_reducible apply Pk.there)) | with_reducible apply Ex.drop))) ?_; intro hR0
              replace hR := Sep.rowPut (TI := 3) (i := i) (xs := zs.take k ++ zs.drop (k + 1)) ((hR.pk (r := sls r51 _ _ _ _ _) (by repeat (first | with_reducible exact Pk.here | with_reducible apply Pk.there))).pk (r := rowsH _ _) (by repeat (first | with_reducible exact Pk.here | with_reducible apply Pk.there))) rfl (by omega)
              refine wpAnyH_done (by kernel_rfl) ?_ _; clear hR0
              refine hK495 _ _ ?_
              refine wp_seq_k ?_; intro K500 hK500
              refine wp_region_lit ?_
              refine sA hS hR (Yld.assign hS rfl) (by decide) ?_; clear hS; intro aa hS
              refine wpList_nil ?_
              refine hK500 _ _ ?_
              refine wp_ret ?_
              repeat (first | with_reducible refine thenR ?_ | with_reducible refine blockR ?_ | with_reducible refine scopeR ?_)
              refine ret1 (fn := Try.f38) (e := .ret) (.inl rfl) Try.results38 hS hR ⟨_, (.tmp rfl), ?_⟩
              refine ⟨by rw [outE_has hy hi0], ?_⟩
              exact Sep.refI (TR := 70) (TS := 27) (TI := 3) (S := S) (b2 := b2) (n := n) (m := ys.length) (hys.set (k := i) (M := (L i).erase y0) (p := (r51, c51)) (xs := zs.take k ++ zs.drop (k + 1)) hi her) (outS_has hy hi0).symm (by simp) (hR.sub (by repeat (first | with_reducible exact Ex.refl | (with_reducible apply Ex.take; · repeat (first | with_reducible exact Pk.here | with_reducible apply Pk.there)) | with_reducible apply Ex.drop)))
          ·
            refine dop rfl (BA hS hR (Yld.load1 hS rfl Try.underlying27 rfl (Rd.rec0 (k := i) (xs := ys) (v := .slice rr zs.length cr) (by repeat (first | with_reducible exact Pk.here | with_reducible apply Pk.there)) (by intro _; rfl) (by omega) (by rw [(List.getElem?_eq_some_iff.1 hrow).2]; rfl))) (by decide) ?_); clear hS; intro aa hS; refine ⟨hR0, ?_⟩
            refine dA 25 rfl (by kernel_rfl) (by kernel_rfl) (by kernel_rfl) (fun _ _ _ h => h) hS hR0 (Yld.sliceLo hS rfl rfl Try.underlying27 info3 (by omega) (by omega)) (by decide) ?_; clear hS; intro aa hS
            refine dOne (i := 5) (by kernel_rfl) ?_
            refine dop rfl (BbuildSlice hS hR rfl (bls27_0_) (by decide) ?_); clear hS hR hR0; intro aa ww bb30 hS hR
            refine dnext (hR.sub (by repeat (first | with_reducible exact Ex.refl | (with_reducible apply Ex.take; · repeat (first | with_reducible exact Pk.here | with_reducible apply Pk.there)) | with_reducible apply Ex.drop))) ?_; intro hR0
            replace hR := hR.pk (r := blk bb30 _ _) (by repeat (first | with_reducible exact Pk.here | with_reducible apply Pk.there))
            replace hR := Sep.toRecs (m := 0) (sz := 1) (enc := e1) (([] : List Int)) hR rfl (by intro _; rfl) rfl
            refine dOne (i := 15) (by kernel_rfl) ?_
            refine dop rfl (BappendR (sz := 1) hS hR rfl rfl Try.underlying27 info3 rfl rfl (by rfl) (by repeat (first | with_reducible exact Pk.here | with_reducible apply Pk.there)) (XC.rowUpto (by repeat (first | with_reducible exact Pk.here | with_reducible apply Pk.there)) hrow (by omega)) (by intro _; rfl) (by show (_ + _) * 8 ≤ _; first | omega | (simp only [List.length_take, List.length_append, List.length_drop, List.length_cons, List.length_nil, List.length_map]; omega)) (by first | omega | (simp only [List.length_take, List.length_append, List.length_drop, List.length_cons, List.length_nil, List.length_map]; omega)) (by first | rfl | (simp; done) | (simp; omega)) (by decide) ?_); clear hS hR hR0; intro aa ww r40 c40 hS hR
            refine dnext (hR.sub (by repeat (first | with_reducible exact Ex.refl | (with_reducible apply Ex.take; · repeat (first | with_reducible exact Pk.here | with_reducible apply Pk.there)) | with_reducible apply Ex.drop))) ?_; intro hR0
            simp only [List.nil_append, Int.toNat_natCast] at hS hR
            refine dOne (i := 26) (by kernel_rfl) ?_
            refine dop rfl (BappendR (sz := 1) hS hR rfl rfl Try.underlying27 info3 rfl rfl (by rfl) (by repeat (first | with_reducible exact Pk.here | with_reducible apply Pk.there)) (XC.rowPart (lo := ((k : Int) + 1).toNat) (by repeat (first | with_reducible exact Pk.here | with_reducible apply Pk.there)) hrow (by rfl) (by omega)) (by intro _; rfl) (by show (_ + _) * 8 ≤ _; first | omega | (simp only [List.length_take, List.length_append, List.length_drop, List.length_cons, List.length_nil, List.length_map]; omega)) (by first | omega | (simp only [List.length_take, List.length_append, List.length_drop, List.length_cons, List.length_nil, List.length_map]; omega)) (by first | rfl | (simp; done) | (simp; omega)) (by decide) ?_); clear hS hR hR0; intro aa ww r51 c51 hS hR
            refine dnext (hR.sub (by repeat (first | with_reducible exact Ex.refl | (with_reducible apply Ex.take; · repeat (first | with_reducible exact Pk.here | with_reducible apply Pk.there)) | with_reducible apply Ex.drop))) ?_; intro hR0
            have hcut : zs.take k ++ (zs.drop ((k : Int) + 1).toNat).take (zs.length - ((k : Int) + 1).toNat) = zs.take k ++ zs.drop (k + 1) := by rw [show ((k : Int) + 1).toNat = k + 1 from by omega, List.take_of_length_le (show (zs.drop (k + 1)).length ≤ zs.length - (k + 1) by simp)]
            rw [hcut] at hS hR
            refine dA 27 rfl (by kernel_rfl) (by kernel_rfl) (by kernel_rfl) (fun _ _ _ h => h) hS hR0 ((by first | exact Yld.indexH (sz := 1) (i) hS rfl rfl Try.underlying26 info27 (by assumption) rfl (by first | rfl | omega) (by omega) | exact Yld.indexL (sz := 1) (i) hS rfl rfl Try.underlying26 info27 (by repeat (first | with_reducible exact Pk.here | with_reducible apply Pk.there)) rfl (by first | rfl | omega) (by omega) | exact Yld.indexB (sz := 1) (i) hS rfl rfl Try.underlying26 info27 rfl (by first | rfl | omega) (by omega))) (by decide) ?_; clear hS; intro aa hS
            refine dOne (i := 28) (by kernel_rfl) ?_
            refine dop rfl (BstoreR0 (((r51, c51), zs.take k ++ zs.drop (k + 1))) hS hR rfl rfl (by rfl) info27 (by rfl) (by repeat (first | with_reducible exact Pk.here | with_reducible apply Pk.there)) (by rfl) (by intro _; rfl) (by omega) (by first | exact Nat.le_of_ble_eq_true rfl | (simp only [List.length_singleton]; omega)) (Nat.le_of_ble_eq_true rfl) (by rfl) ?_); clear hR hR0; intro ww hR
            refine dnext (hR.sub (by repeat (first | with_reducible exact Ex.refl | (with_reducible apply Ex.take; · repeat (first | with_reducible exact Pk.here | with_reducible apply Pk.there)) | with_reducible apply Ex.drop))) ?_; intro hR0
            replace hR := Sep.rowPut (TI := 3) (i := i) (xs := zs.take k ++ zs.drop (k + 1)) ((hR.pk (r := sls r51 _ _ _ _ _) (by repeat (first | with_reducible exact Pk.here | with_reducible apply Pk.there))).pk (r := rowsH _ _) (by repeat (first | with_reducible exact Pk.here | with_reducible apply Pk.there))) rfl (by omega)
            refine wpAnyH_done (by kernel_rfl) ?_ _; clear hR0
            refine hK495 _ _ ?_
            refine wp_seq_k ?_; intro K501 hK501
            refine wp_region_lit ?_
            refine sA hS hR (Yld.assign hS rfl) (by decide) ?_; clear hS; intro aa hS
            refine wpList_nil ?_
            refine hK501 _ _ ?_
            refine wp_ret ?_
            repeat (first | with_reducible refine thenR ?_ | with_reducible refine blockR ?_ | with_reducible refine scopeR ?_)
            refine ret1 (fn := Try.f38) (e := .ret) (.inl rfl) Try.results38 hS hR ⟨_, (.tmp rfl), ?_⟩
            refine ⟨by rw [outE_has hy hi0], ?_⟩
            exact Sep.refI (TR := 70) (TS := 27) (TI := 3) (S := S) (b2 := b2) (n := n) (m := ys.length) (hys.set (k := i) (M := (L i).erase y0) (p := (r51, c51)) (xs := zs.take k ++ zs.drop (k + 1)) hi her) (outS_has hy hi0).symm (by simp) (hR.sub (by repeat (first | with_reducible exact Ex.refl | (with_reducible apply Ex.take; · repeat (first | with_reducible exact Pk.here | with_reducible apply Pk.there)) | with_reducible apply Ex.drop)))
        ·
          refine dop rfl (BA hS hR (Yld.load1 hS rfl Try.underlying27 rfl (Rd.rec0 (k := i) (xs := ys) (v := .slice rr zs.length cr) (by repeat (first | with_reducible exact Pk.here | with_reducible apply Pk.there)) (by intro _; rfl) (by omega) (by rw [(List.getElem?_eq_some_iff.1 hrow).2]; rfl))) (by decide) ?_); clear hS; intro aa hS; refine ⟨hR0, ?_⟩
          refine dA 25 rfl (by kernel_rfl) (by kernel_rfl) (by kernel_rfl) (fun _ _ _ h => h) hS hR0 (Yld.sliceLo hS rfl rfl Try.underlying27 info3 (by omega) (by omega)) (by decide) ?_; clear hS; intro aa hS
          refine dTwo (i := 5) (j := 12) (by kernel_rfl) ?_ ?_
          ·
            refine dop rfl (BbuildSlice hS hR rfl (bls27_0_) (by decide) ?_); clear hS hR hR0; intro aa ww bb30 hS hR
            refine dnext (hR.sub (by repeat (first | with_reducible exact Ex.refl | (with_reducible apply Ex.take; · repeat (first | with_reducible exact Pk.here | with_reducible apply Pk.there)) | with_reducible apply Ex.drop))) ?_; intro hR0
            replace hR := hR.pk (r := blk bb30 _ _) (by repeat (first | with_reducible exact Pk.here | with_reducible apply Pk.there))
            replace hR := Sep.toRecs (m := 0) (sz := 1) (enc := e1) (([] : List Int)) hR rfl (by intro _; rfl) rfl
            refine dOne (i := 12) (by kernel_rfl) ?_
            refine dop rfl (BA hS hR (Yld.load1 hS rfl Try.underlying27 rfl (Rd.rec0 (k := i) (xs := ys) (v := .slice rr zs.length cr) (by repeat (first | with_reducible exact Pk.here | with_reducible apply Pk.there)) (by intro _; rfl) (by omega) (by rw [(List.getElem?_eq_some_iff.1 hrow).2]; rfl))) (by decide) ?_); clear hS; intro aa hS; refine ⟨hR0, ?_⟩
            refine dA 14 rfl (by kernel_rfl) (by kernel_rfl) (by kernel_rfl) (fun _ _ _ h => h) hS hR0 (Yld.sliceHi hS rfl rfl Try.underlying27 info3 (by omega) (by omega)) (by decide) ?_; clear hS; intro aa hS
            refine dOne (i := 15) (by kernel_rfl) ?_
            refine dop rfl (BappendR (sz := 1) hS hR rfl rfl Try.underlying27 info3 rfl rfl (by rfl) (by repeat (first | with_reducible exact Pk.here | with_reducible apply Pk.there)) (XC.rowUpto (by repeat (first | with_reducible exact Pk.here | with_reducible apply Pk.there)) hrow (by omega)) (by intro _; rfl) (by show (_ + _) * 8 ≤ _; first | omega | (simp only [List.length_take, List.length_append, List.length_drop, List.length_cons, List.length_nil, List.length_map]; omega)) (by first | omega | (simp only [List.length_take, List.length_append, List.length_drop, List.length_cons, List.length_nil, List.length_map]; omega)) (by first | rfl | (simp; done) | (simp; omega)) (by decide) ?_); clear hS hR hR0; intro aa ww r40 c40 hS hR
            refine dnext (hR.sub (by repeat (first | with_reducible exact Ex.refl | (with_reducible apply Ex.take; · repeat (first | with_reducible exact Pk.here | with_reducible apply Pk.there)) | with_reducible apply Ex.drop))) ?_; intro hR0
            simp only [List.nil_append, Int.toNat_natCast] at hS hR
            refine dOne (i := 26) (by kernel_rfl) ?_
            refine dop rfl (BappendR (sz := 1) hS hR rfl rfl Try.underlying27 info3 rfl rfl (by rfl) (by repeat (first | with_reducible exact Pk.here | with_reducible apply Pk.there)) (XC.rowPart (lo := ((k : Int) + 1).toNat) (by repeat (first | with_reducible exact Pk.here | with_reducible apply Pk.there)) hrow (by rfl) (by omega)) (by intro _; rfl) (by show (_ + _) * 8 ≤ _; first | omega | (simp only [List.length_take, List.length_append, List.length_drop, List.length_cons, List.length_nil, List.length_map]; omega)) (by first | omega | (simp only [List.length_take, List.length_append, List.length_drop, List.length_cons, List.length_nil, List.length_map]; omega)) (by first | rfl | (simp; done) | (simp; omega)) (by decide) ?_); clear hS hR hR0; intro aa ww r51 c51 hS hR
            refine dnext (hR.sub (by repeat (first | with_reducible exact Ex.refl | (with_reducible apply Ex.take; · repeat (first | with_reducible exact Pk.here | with_reducible apply Pk.there)) | with_reducible apply Ex.drop))) ?_; intro hR0
            have hcut : zs.take k ++ (zs.drop ((k : Int) + 1).toNat).take (zs.length - ((k : Int) + 1).toNat) = zs.take k ++ zs.drop (k + 1) := by rw [show ((k : Int) + 1).toNat = k + 1 from by omega, List.take_of_length_le (show (zs.drop (k + 1)).length ≤ zs.length - (k + 1) by simp)]
            rw [hcut] at hS hR
            refine dA 27 rfl (by kernel_rfl) (by kernel_rfl) (by kernel_rfl) (fun _ _ _ h => h) hS hR0 ((by first | exact Yld.indexH (sz := 1) (i) hS rfl rfl Try.underlying26 info27 (by assumption) rfl (by first | rfl | omega) (by omega) | exact Yld.indexL (sz := 1) (i) hS rfl rfl Try.underlying26 info27 (by repeat (first | with_reducible exact Pk.here | with_reducible apply Pk.there)) rfl (by first | rfl | omega) (by omega) | exact Yld.indexB (sz := 1) (i) hS rfl rfl Try.underlying26 info27 rfl (by first | rfl | omega) (by omega))) (by decide) ?_; clear hS; intro aa hS
            refine dOne (i := 28) (by kernel_rfl) ?_
            refine dop rfl (BstoreR0 (((r51, c51), zs.take k ++ zs.drop (k + 1))) hS hR rfl rfl (by rfl) info27 (by rfl) (by repeat (first | with_reducible exact Pk.here | with_reducible apply Pk.there)) (by rfl) (by intro _; rfl) (by omega) (by first | exact Nat.le_of_ble_eq_true rfl | (simp only [List.length_singleton]; omega)) (Nat.le_of_ble_eq_true rfl) (by rfl) ?_); clear hR hR0; intro ww hR
            refine dnext (hR.sub (by repeat (first | with_reducible exact Ex.refl | (with_reducible apply Ex.take; · repeat (first | with_reducible exact Pk.here | with_reducible apply Pk.there)) | with_reducible apply Ex.drop))) ?_; intro hR0
            replace hR := Sep.rowPut (TI := 3) (i := i) (xs := zs.take k ++ zs.drop (k + 1)) ((hR.pk (r := sls r51 _ _ _ _ _) (by repeat (first | with_reducible exact Pk.here | with_reducible apply Pk.there))).pk (r := rowsH _ _) (by repeat (first | with_reducible exact Pk.here | with_reducible apply Pk.there))) rfl (by omega)
            refine wpAnyH_done (by kernel_rfl) ?_ _; clear hR0
            refine hK495 _ _ ?_
            refine wp_seq_k ?_; intro K502 hK502
            refine wp_region_lit ?_
            refine sA hS hR (Yld.assign hS rfl) (by decide) ?_; clear hS; intro aa hS
            refine wpList_nil ?_
            refine hK502 _ _ ?_
            refine wp_ret ?_
            repeat (first | with_reducible refine thenR ?_ | with_reducible refine blockR ?_ | with_reducible refine scopeR ?_)
            refine ret1 (fn := Try.f38) (e := .ret) (.inl rfl) Try.results38 hS hR ⟨_, (.tmp rfl), ?_⟩
            refine ⟨by rw [outE_has hy hi0], ?_⟩
            exact Sep.refI (TR := 70) (TS := 27) (TI := 3) (S := S) (b2 := b2) (n := n) (m := ys.length) (hys.set (k := i) (M := (L i).erase y0) (p := (r51, c51)) (xs := zs.take k ++ zs.drop (k + 1)) hi her) (outS_has hy hi0).symm (by simp) (hR.sub (by repeat (first | with_reducible exact Ex.refl | (with_reducible apply Ex.take; · repeat (first | with_reducible exact Pk.here | with_reducible apply Pk.there)) | with_reducible apply Ex.drop)))
          ·
            refine dop rfl (BA hS hR (Yld.load1 hS rfl Try.underlying27 rfl (Rd.rec0 (k := i) (xs := ys) (v := .slice rr zs.length cr) (by repeat (first | with_reducible exact Pk.here | with_reducible apply Pk.there)) (by intro _; rfl) (by omega) (by rw [(List.getElem?_eq_some_iff.1 hrow).2]; rfl))) (by decide) ?_); clear hS; intro aa hS; refine ⟨hR0, ?_⟩
            refine dA 14 rfl (by kernel_rfl) (by kernel_rfl) (by kernel_rfl) (fun _ _ _ h => h) hS hR0 (Yld.sliceHi hS rfl rfl Try.underlying27 info3 (by omega) (by omega)) (by decide) ?_; clear hS; intro aa hS
            refine dOne (i := 5) (by kernel_rfl) ?_
            refine dop rfl (BbuildSlice hS hR rfl (bls27_0_) (by decide) ?_); clear hS hR hR0; intro aa ww bb30 hS hR
            refine dnext (hR.sub (by repeat (first | with_reducible exact Ex.refl | (with_reducible apply Ex.take; · repeat (first | with_reducible exact Pk.here | with_reducible apply Pk.there)) | with_reducible apply Ex.drop))) ?_; intro hR0
            replace hR := hR.pk (r := blk bb30 _ _) (by repeat (first | with_reducible exact Pk.here | with_reducible apply Pk.there))
            replace hR := Sep.toRecs (m := 0) (sz := 1) (enc := e1) (([] : List Int)) hR rfl (by intro _; rfl) rfl
            refine dOne (i := 15) (by kernel_rfl) ?_
            refine dop rfl (BappendR (sz := 1) hS hR rfl rfl Try.underlying27 info3 rfl rfl (by rfl) (by repeat (first | with_reducible exact Pk.here | with_reducible apply Pk.there)) (XC.rowUpto (by repeat (first | with_reducible exact Pk.here | with_reducible apply Pk.there)) hrow (by omega)) (by intro _; rfl) (by show (_ + _) * 8 ≤ _; first | omega | (simp only [List.length_take, List.length_append, List.length_drop, List.length_cons, List.length_nil, List.length_map]; omega)) (by first | omega | (simp only [List.length_take, List.length_append, List.length_drop, List.length_cons, List.length_nil, List.length_map]; omega)) (by first | rfl | (simp; done) | (simp; omega)) (by decide) ?_); clear hS hR hR0; intro aa ww r40 c40 hS hR
            refine dnext (hR.sub (by repeat (first | with_reducible exact Ex.refl | (with_reducible apply Ex.take; · repeat (first | with_reducible exact Pk.here | with_reducible apply Pk.there)) | with_reducible apply Ex.drop))) ?_; intro hR0
            simp only [List.nil_append, Int.toNat_natCast] at hS hR
            refine dOne (i := 26) (by kernel_rfl) ?_
            refine dop rfl (BappendR (sz := 1) hS hR rfl rfl Try.underlying27 info3 rfl rfl (by rfl) (by repeat (first | with_reducible exact Pk.here | with_reducible apply Pk.there)) (XC.rowPart (lo := ((k : Int) + 1).toNat) (by repeat (first | with_reducible exact Pk.here | with_reducible apply Pk.there)) hrow (by rfl) (by omega)) (by intro _; rfl) (by show (_ + _) * 8 ≤ _; first | omega | (simp only [List.length_take, List.length_append, List.length_drop, List.length_cons, List.length_nil, List.length_map]; omega)) (by first | omega | (simp only [List.length_take, List.length_append, List.length_drop, List.length_cons, List.length_nil, List.length_map]; omega)) (by first | rfl | (simp; done) | (simp; omega)) (by decide) ?_); clear hS hR hR0; intro aa ww r51 c51 hS hR
            refine dnext (hR.sub (by repeat (first | with_reducible exact Ex.refl | (with_reducible apply Ex.take; · repeat (first | with_reducible exact Pk.here | with_reducible apply Pk.there)) | with_reducible apply Ex.drop))) ?_; intro hR0
            have hcut : zs.take k ++ (zs.drop ((k : Int) + 1).toNat).take (zs.length - ((k : Int) + 1).toNat) = zs.take k ++ zs.drop (k + 1) := by rw [show ((k : Int) + 1).toNat = k + 1 from by omega, List.take_of_length_le (show (zs.drop (k + 1)).length ≤ zs.length - (k + 1) by simp)]
            rw [hcut] at hS hR
            refine dA 27 rfl (by kernel_rfl) (by kernel_rfl) (by kernel_rfl) (fun _ _ _ h => h) hS hR0 ((by first | exact Yld.indexH (sz := 1) (i) hS rfl rfl Try.underlying26 info27 (by assumption) rfl (by first | rfl | omega) (by omega) | exact Yld.indexL (sz := 1) (i) hS rfl rfl Try.underlying26 info27 (by repeat (first | with_reducible exact Pk.here | with_reducible apply Pk.there)) rfl (by first | rfl | omega) (by omega) | exact Yld.indexB (sz := 1) (i) hS rfl rfl Try.underlying26 info27 rfl (by first | rfl | omega) (by omega))) (by decide) ?_; clear hS; intro aa hS
            refine dOne (i := 28) (by kernel_rfl) ?_
            refine dop rfl (BstoreR0 (((r51, c51), zs.take k ++ zs.drop (k + 1))) hS hR rfl rfl (by rfl) info27 (by rfl) (by repeat (first | with_reducible exact Pk.here | with_reducible apply Pk.there)) (by rfl) (by intro _; rfl) (by omega) (by first | exact Nat.le_of_ble_eq_true rfl | (simp only [List.length_singleton]; omega)) (Nat.le_of_ble_eq_true rfl) (by rfl) ?_); clear hR hR0; intro ww hR
            refine dnext (hR.sub (by repeat (first | with_reducible exact Ex.refl | (with_reducible apply Ex.take; · repeat (first | with_reducible exact Pk.here | with_reducible apply Pk.there)) | with_reducible apply Ex.drop))) ?_; intro hR0
            replace hR := Sep.rowPut (TI := 3) (i := i) (xs := zs.take k ++ zs.drop (k + 1)) ((hR.pk (r := sls r51 _ _ _ _ _) (by repeat (first | with_reducible exact Pk.here | with_reducible apply Pk.there))).pk (r := rowsH _ _) (by repeat (first | with_reducible exact Pk.here | with_reducible apply Pk.there))) rfl (by omega)
            refine wpAnyH_done (by kernel_rfl) ?_ _; clear hR0
            refine hK495 _ _ ?_
            refine wp_seq_k ?_; intro K503 hK503
            refine wp_region_lit ?_
            refine sA hS hR (Yld.assign hS rfl) (by decide) ?_; clear hS; intro aa hS
            refine wpList_nil ?_
            refine hK503 _ _ ?_
            refine wp_ret ?_
            repeat (first | with_reducible refine thenR ?_ | with_reducible refine blockR ?_ | with_reducible refine scopeR ?_)
            refine ret1 (fn := Try.f38) (e := .ret) (.inl rfl) Try.results38 hS hR ⟨_, (.tmp rfl), ?_⟩
            refine ⟨by rw [outE_has hy hi0], ?_⟩
            exact Sep.refI (TR := 70) (TS := 27) (TI := 3) (S := S) (b2 := b2) (n := n) (m := ys.length) (hys.set (k := i) (M := (L i).erase y0) (p := (r51, c51)) (xs := zs.take k ++ zs.drop (k + 1)) hi her) (outS_has hy hi0).symm (by simp) (hR.sub (by repeat (first | with_reducible exact Ex.refl | (with_reducible apply Ex.take; · repeat (first | with_reducible exact Pk.here | with_reducible apply Pk.there)) | with_reducible apply Ex.drop)))
      ·
        refine sB (Bcall hS rfl Try.call40 (ROf_ok (v0 := (y0 : Int)) hys hnn hL (((hR.pk (r := rowsH _ _) (by repeat (first | with_reducible exact Pk.here | with_reducible apply Pk.there))).pk (r := sls r2 _ _ _ _ _) (by repeat (first | with_reducible exact Pk.here | with_reducible apply Pk.there))).pk (r := blk b2 _ _) (by repeat (first | with_reducible exact Pk.here | with_reducible apply Pk.there)))) (by decide) ?_); clear hS; intro aa ww vv hS hp
        clear hR
        obtain ⟨rfl, hR⟩ := hp
        have hn9 := hn
        have hno : ofL n L y0 = none := by
          cases h : ofL n L y0 with
          | none => rfl
          | some i => rw [h] at hn9; simp at hn9
        rw [show posV n L (y0 : Int) = .tuple [.int .i64 (-1), .int .i64 (-1)].toArray from by rw [posV, ofI_ofL, hno]] at hS
        refine sA hS hR (Yld.move hS rfl) (by decide) ?_; clear hS; intro aa hS
        refine sA hS hR (Yld.extract hS rfl rfl) (by decide) ?_; clear hS; intro aa hS
        refine sA hS hR (Yld.extract hS rfl rfl) (by decide) ?_; clear hS; intro aa hS
        refine sA hS hR (Yld.assign hS rfl) (by decide) ?_; clear hS; intro aa hS
        refine sA hS hR (Yld.assign hS rfl) (by decide) ?_; clear hS; intro aa hS
        refine wpList_nil ?_
        refine hK492 _ _ ?_
        refine wp_seq_k ?_; intro K504 hK504
        refine wp_seq_k ?_; intro K505 hK505
        refine wp_region_lit ?_
        refine sA hS hR (Yld.move hS rfl) (by decide) ?_; clear hS; intro aa hS
        refine sA hS hR (Yld.lss hS rfl rfl) (by decide) ?_; clear hS; intro aa hS
        replace hS := hS.sayB (t := 24) true rfl (by rfl)
        refine wpList_nil ?_
        refine hK505 _ _ ?_
        refine condT hS rfl ?_
        refine wp_seq_k ?_; intro K506 hK506
        refine wp_region_lit ?_
        refine sA hS hR (Yld.assign hS rfl) (by decide) ?_; clear hS; intro aa hS
        refine wpList_nil ?_
        refine hK506 _ _ ?_
        refine wp_ret ?_
        repeat (first | with_reducible refine thenR ?_ | with_reducible refine blockR ?_ | with_reducible refine scopeR ?_)
        refine ret1 (fn := Try.f38) (e := .ret) (.inl rfl) Try.results38 hS hR ⟨_, (.tmp rfl), ?_⟩
        refine ⟨by rw [outE_no hy hno], ?_⟩
        exact Sep.refI (TR := 70) (TS := 27) (TI := 3) (S := S) (b2 := b2) (n := n) hys (outS_no hy hno).symm rfl (hR.sub (by repeat (first | with_reducible exact Ex.refl | (with_reducible apply Ex.take; · repeat (first | with_reducible exact Pk.here | with_reducible apply Pk.there)) | with_reducible apply Ex.drop)))
end Go.Proofs.Ytcokognhodjfgaa.Sx
