/-
  
-/
import Derived.Test.YtcokognhodjfgaaRxB
namespace Go.Proofs.Ytcokognhodjfgaa.Sx
open Go
set_option linter.unusedVariables false
set_option linter.unusedSimpArgs false



set_option maxHeartbeats 2000000 in
set_option maxRecDepth 20000 in
theorem RJoin_ok {S n b2 : Nat} {L : Nat → List Nat} {l : List HP} {w : World} {x0 y0 : Int} (hWL : WL S n L) (hR : Sep (refA 70 27 3 b2 S n L :: l) w) : CallR Try.prog 39 [.pointer (some ⟨b2, 0, none⟩), .int .i64 x0, .int .i64 y0] w (fun v w' => v = .int .i64 (joinE n x0 y0) ∧ Sep (refA 70 27 3 b2 S n (joinS n L x0 y0) :: l) w') := by
  refine enter Try.func39 rfl Try.ntmps39 (Nat.le_of_ble_eq_true rfl) ?_; intro aa hS
  obtain ⟨ys, r2, c2, hys, hR⟩ := hR.refE
  have hn := (show 1 ≤ n ∧ n ≤ 4096 from ⟨hWL.n1, hWL.n2⟩)
  have hs1 := hWL.s1
  have hs2 := hWL.s2
  have hL : ∀ k, k < n → (L k).length ≤ 8192 := fun k hk => by have := hWL.len hk; omega
  have hyl := hys.len
  have hb2 : Bk r2 := (hR.pk (r := sls r2 _ _ _ _ _) (by repeat (first | with_reducible exact Pk.here | with_reducible apply Pk.there))).bk (by omega)
  refine wp_seq_k ?_; intro K507 hK507
  refine wp_region_lit ?_
  refine sA hS hR (Yld.assign hS rfl) (by decide) ?_; clear hS; intro aa hS
  refine wpList_nil ?_
  refine hK507 _ _ ?_
  refine wp_seq_k ?_; intro K508 hK508
  refine wp_seq_k ?_; intro K509 hK509
  refine wp_region_lit ?_
  refine sA hS hR (Yld.move hS rfl) (by decide) ?_; clear hS; intro aa hS
  refine sA hS hR (Yld.lss hS rfl rfl) (by decide) ?_; clear hS; intro aa hS
  refine sA hS hR (Yld.move hS rfl) (by decide) ?_; clear hS; intro aa hS
  refine hS.splitB (t := 9) rfl ?_ ?_ <;> clear hS
  · intro hg hS
    refine sSkip hS rfl rfl rfl (by decide) ?_; clear hS; intro aa hS
    refine sSkip hS rfl rfl rfl (by decide) ?_; clear hS; intro aa hS
    refine sSkip hS rfl rfl rfl (by decide) ?_; clear hS; intro aa hS
    refine sSkip hS rfl rfl rfl (by decide) ?_; clear hS; intro aa hS
    refine sSkip hS rfl rfl rfl (by decide) ?_; clear hS; intro aa hS
    refine sSkip hS rfl rfl rfl (by decide) ?_; clear hS; intro aa hS
    refine sSkip hS rfl rfl rfl (by decide) ?_; clear hS; intro aa hS
    refine sA hS hR (Yld.pickT hS rfl rfl) (by decide) ?_; clear hS; intro aa hS
    refine sA hS hR (Yld.move hS rfl) (by decide) ?_; clear hS; intro aa hS
    refine sSkip hS rfl rfl rfl (by decide) ?_; clear hS; intro aa hS
    refine sSkip hS rfl rfl rfl (by decide) ?_; clear hS; intro aa hS
    refine sA hS hR (Yld.pickT hS rfl rfl) (by decide) ?_; clear hS; intro aa hS
    refine sA hS hR (Yld.move hS rfl) (by decide) ?_; clear hS; intro aa hS
    refine sSkip hS rfl rfl rfl (by decide) ?_; clear hS; intro aa hS
    refine sSkip hS rfl rfl rfl (by decide) ?_; clear hS; intro aa hS
    refine sSkip hS rfl rfl rfl (by decide) ?_; clear hS; intro aa hS
    refine sSkip hS rfl rfl rfl (by decide) ?_; clear hS; intro aa hS
    refine sSkip hS rfl rfl rfl (by decide) ?_; clear hS; intro aa hS
    refine sSkip hS rfl rfl rfl (by decide) ?_; clear hS; intro aa hS
    refine sSkip hS rfl rfl rfl (by decide) ?_; clear hS; intro aa hS
    refine sA hS hR (Yld.pickT hS rfl rfl) (by decide) ?_; clear hS; intro aa hS
    refine sA hS hR (Yld.move hS rfl) (by decide) ?_; clear hS; intro aa hS
    refine sSkip hS rfl rfl rfl (by decide) ?_; clear hS; intro aa hS
    refine sSkip hS rfl rfl rfl (by decide) ?_; clear hS; intro aa hS
    refine sSkip hS rfl rfl rfl (by decide) ?_; clear hS; intro aa hS
    refine sA hS hR (Yld.pickT hS rfl rfl) (by decide) ?_; clear hS; intro aa hS
    refine wpList_nil ?_
    refine hK509 _ _ ?_
    refine condT hS rfl ?_
    refine wp_seq_k ?_; intro K510 hK510
    refine wp_region_lit ?_
    refine sA hS hR (Yld.assign hS rfl) (by decide) ?_; clear hS; intro aa hS
    refine wpList_nil ?_
    refine hK510 _ _ ?_
    refine wp_ret ?_
    repeat (first | with_reducible refine thenR ?_ | with_reducible refine blockR ?_ | with_reducible refine scopeR ?_)
    refine ret1 (fn := Try.f39) (e := .ret) (.inl rfl) Try.results39 hS hR ⟨_, (.tmp rfl), ?_⟩
    have he : joinE n x0 y0 = 2 := if_pos (by omega)
    refine ⟨by rw [he], ?_⟩
    exact Sep.refI (TR := 70) (TS := 27) (TI := 3) (S := S) (b2 := b2) (n := n) hys (by rw [joinS, he]; rfl) rfl (hR.sub (by repeat (first | with_reducible exact Ex.refl | (with_reducible apply Ex.take; · repeat (first | with_reducible exact Pk.here | with_reducible apply Pk.there)) | with_reducible apply Ex.drop)))
  · intro hg hS
    refine sAg hS hR rfl rfl (Yld.move hS rfl) (by decide) ?_; clear hS; intro aa hS
    refine sAg hS hR rfl rfl (Yld.move hS rfl) (by decide) ?_; clear hS; intro aa hS
    refine sAg hS hR rfl rfl (Yld.nilCheck hS rfl) (by decide) ?_; clear hS; intro aa hS
    refine sAg hS hR rfl rfl (Yld.fieldAddr hS rfl 1 Try.underlying70 rfl rfl info26 (by decide)) (by decide) ?_; clear hS; intro aa hS
    refine sAg hS hR rfl rfl (Yld.load1 hS rfl Try.underlying26 rfl (by first | exact Rd.blk (by repeat (first | with_reducible exact Pk.here | with_reducible apply Pk.there)) (by rfl) | exact Rd.rec (by repeat (first | with_reducible exact Pk.here | with_reducible apply Pk.there)) (by intro _; rfl) (by first | omega | (simp only [List.length_set, List.length_append, List.length_nil]; omega)) rfl | exact Rd.rec0 (by repeat (first | with_reducible exact Pk.here | with_reducible apply Pk.there)) (by intro _; rfl) (by first | omega | (simp only [List.length_set, List.length_append, List.length_nil]; omega)) rfl | exact Rd.flatJ (by repeat (first | with_reducible exact Pk.here | with_reducible apply Pk.there)) (by intro _; rfl) (by first | omega | (simp only [List.length_set, List.length_append, List.length_nil]; omega)) rfl | exact Rd.flat0 (by repeat (first | with_reducible exact Pk.here | with_reducible apply Pk.there)) (by intro _; rfl) (by first | omega | (simp only [List.length_set, List.length_append, List.length_nil]; omega)) rfl)) (by decide) ?_; clear hS; intro aa hS
    refine sAg hS hR rfl rfl (Yld.len hS rfl Try.underlying26) (by decide) ?_; clear hS; intro aa hS
    refine sAg hS hR rfl rfl (Yld.geq hS rfl rfl) (by decide) ?_; clear hS; intro aa hS
    refine sA hS hR (Yld.pickF hS rfl rfl) (by decide) ?_; clear hS; intro aa hS
    refine sA hS hR (Yld.move hS rfl) (by decide) ?_; clear hS; intro aa hS
    refine hS.splitB (t := 18) rfl ?_ ?_ <;> clear hS
    · intro hg hS
      refine sSkip hS rfl rfl rfl (by decide) ?_; clear hS; intro aa hS
      refine sSkip hS rfl rfl rfl (by decide) ?_; clear hS; intro aa hS
      refine sA hS hR (Yld.pickT hS rfl rfl) (by decide) ?_; clear hS; intro aa hS
      refine sA hS hR (Yld.move hS rfl) (by decide) ?_; clear hS; intro aa hS
      refine sSkip hS rfl rfl rfl (by decide) ?_; clear hS; intro aa hS
      refine sSkip hS rfl rfl rfl (by decide) ?_; clear hS; intro aa hS
      refine sSkip hS rfl rfl rfl (by decide) ?_; clear hS; intro aa hS
      refine sSkip hS rfl rfl rfl (by decide) ?_; clear hS; intro aa hS
      refine sSkip hS rfl rfl rfl (by decide) ?_; clear hS; intro aa hS
      refine sSkip hS rfl rfl rfl (by decide) ?_; clear hS; intro aa hS
      refine sSkip hS rfl rfl rfl (by decide) ?_; clear hS; intro aa hS
      refine sA hS hR (Yld.pickT hS rfl rfl) (by decide) ?_; clear hS; intro aa hS
      refine sA hS hR (Yld.move hS rfl) (by decide) ?_; clear hS; intro aa hS
      refine sSkip hS rfl rfl rfl (by decide) ?_; clear hS; intro aa hS
      refine sSkip hS rfl rfl rfl (by decide) ?_; clear hS; intro aa hS
      refine sSkip hS rfl rfl rfl (by decide) ?_; clear hS; intro aa hS
      refine sA hS hR (Yld.pickT hS rfl rfl) (by decide) ?_; clear hS; intro aa hS
      refine wpList_nil ?_
      refine hK509 _ _ ?_
      refine condT hS rfl ?_
      refine wp_seq_k ?_; intro K511 hK511
      refine wp_region_lit ?_
      refine sA hS hR (Yld.assign hS rfl) (by decide) ?_; clear hS; intro aa hS
      refine wpList_nil ?_
      refine hK511 _ _ ?_
      refine wp_ret ?_
      repeat (first | with_reducible refine thenR ?_ | with_reducible refine blockR ?_ | with_reducible refine scopeR ?_)
      refine ret1 (fn := Try.f39) (e := .ret) (.inl rfl) Try.results39 hS hR ⟨_, (.tmp rfl), ?_⟩
      have he : joinE n x0 y0 = 2 := if_pos (by omega)
      refine ⟨by rw [he], ?_⟩
      exact Sep.refI (TR := 70) (TS := 27) (TI := 3) (S := S) (b2 := b2) (n := n) hys (by rw [joinS, he]; rfl) rfl (hR.sub (by repeat (first | with_reducible exact Ex.refl | (with_reducible apply Ex.take; · repeat (first | with_reducible exact Pk.here | with_reducible apply Pk.there)) | with_reducible apply Ex.drop)))
    · intro hg hS
      refine sAg hS hR rfl rfl (Yld.move hS rfl) (by decide) ?_; clear hS; intro aa hS
      refine sAg hS hR rfl rfl (Yld.lss hS rfl rfl) (by decide) ?_; clear hS; intro aa hS
      refine sA hS hR (Yld.pickF hS rfl rfl) (by decide) ?_; clear hS; intro aa hS
      refine sA hS hR (Yld.move hS rfl) (by decide) ?_; clear hS; intro aa hS
      refine hS.splitB (t := 22) rfl ?_ ?_ <;> clear hS
      · intro hg hS
        refine sSkip hS rfl rfl rfl (by decide) ?_; clear hS; intro aa hS
        refine sSkip hS rfl rfl rfl (by decide) ?_; clear hS; intro aa hS
        refine sSkip hS rfl rfl rfl (by decide) ?_; clear hS; intro aa hS
        refine sSkip hS rfl rfl rfl (by decide) ?_; clear hS; intro aa hS
        refine sSkip hS rfl rfl rfl (by decide) ?_; clear hS; intro aa hS
        refine sSkip hS rfl rfl rfl (by decide) ?_; clear hS; intro aa hS
        refine sSkip hS rfl rfl rfl (by decide) ?_; clear hS; intro aa hS
        refine sA hS hR (Yld.pickT hS rfl rfl) (by decide) ?_; clear hS; intro aa hS
        refine sA hS hR (Yld.move hS rfl) (by decide) ?_; clear hS; intro aa hS
        refine sSkip hS rfl rfl rfl (by decide) ?_; clear hS; intro aa hS
        refine sSkip hS rfl rfl rfl (by decide) ?_; clear hS; intro aa hS
        refine sSkip hS rfl rfl rfl (by decide) ?_; clear hS; intro aa hS
        refine sA hS hR (Yld.pickT hS rfl rfl) (by decide) ?_; clear hS; intro aa hS
        refine wpList_nil ?_
        refine hK509 _ _ ?_
        refine condT hS rfl ?_
        refine wp_seq_k ?_; intro K512 hK512
        refine wp_region_lit ?_
        refine sA hS hR (Yld.assign hS rfl) (by decide) ?_; clear hS; intro aa hS
        refine wpList_nil ?_
        refine hK512 _ _ ?_
        refine wp_ret ?_
        repeat (first | with_reducible refine thenR ?_ | with_reducible refine blockR ?_ | with_reducible refine scopeR ?_)
        refine ret1 (fn := Try.f39) (e := .ret) (.inl rfl) Try.results39 hS hR ⟨_, (.tmp rfl), ?_⟩
        have he : joinE n x0 y0 = 2 := if_pos (by omega)
        refine ⟨by rw [he], ?_⟩
        exact Sep.refI (TR := 70) (TS := 27) (TI := 3) (S := S) (b2 := b2) (n := n) hys (by rw [joinS, he]; rfl) rfl (hR.sub (by repeat (first | with_reducible exact Ex.refl | (with_reducible apply Ex.take; · repeat (first | with_reducible exact Pk.here | with_reducible apply Pk.there)) | with_reducible apply Ex.drop)))
      · intro hg hS
        refine sAg hS hR rfl rfl (Yld.move hS rfl) (by decide) ?_; clear hS; intro aa hS
        refine sAg hS hR rfl rfl (Yld.move hS rfl) (by decide) ?_; clear hS; intro aa hS
        refine sAg hS hR rfl rfl (Yld.nilCheck hS rfl) (by decide) ?_; clear hS; intro aa hS
        refine sAg hS hR rfl rfl (Yld.fieldAddr hS rfl 1 Try.underlying70 rfl rfl info26 (by decide)) (by decide) ?_; clear hS; intro aa hS
        refine sAg hS hR rfl rfl (Yld.load1 hS rfl Try.underlying26 rfl (by first | exact Rd.blk (by repeat (first | with_reducible exact Pk.here | with_reducible apply Pk.there)) (by rfl) | exact Rd.rec (by repeat (first | with_reducible exact Pk.here | with_reducible apply Pk.there)) (by intro _; rfl) (by first | omega | (simp only [List.length_set, List.length_append, List.length_nil]; omega)) rfl | exact Rd.rec0 (by repeat (first | with_reducible exact Pk.here | with_reducible apply Pk.there)) (by intro _; rfl) (by first | omega | (simp only [List.length_set, List.length_append, List.length_nil]; omega)) rfl | exact Rd.flatJ (by repeat (first | with_reducible exact Pk.here | with_reducible apply Pk.there)) (by intro _; rfl) (by first | omega | (simp only [List.length_set, List.length_append, List.length_nil]; omega)) rfl | exact Rd.flat0 (by repeat (first | with_reducible exact Pk.here | with_reducible apply Pk.there)) (by intro _; rfl) (by first | omega | (simp only [List.length_set, List.length_append, List.length_nil]; omega)) rfl)) (by decide) ?_; clear hS; intro aa hS
        refine sAg hS hR rfl rfl (Yld.len hS rfl Try.underlying26) (by decide) ?_; clear hS; intro aa hS
        refine sAg hS hR rfl rfl (Yld.geq hS rfl rfl) (by decide) ?_; clear hS; intro aa hS
        refine sA hS hR (Yld.pickF hS rfl rfl) (by decide) ?_; clear hS; intro aa hS
        refine sA hS hR (Yld.move hS rfl) (by decide) ?_; clear hS; intro aa hS
        refine hS.splitB (t := 31) rfl ?_ ?_ <;> clear hS
        · intro hg hS
          refine sSkip hS rfl rfl rfl (by decide) ?_; clear hS; intro aa hS
          refine sSkip hS rfl rfl rfl (by decide) ?_; clear hS; intro aa hS
          refine sSkip hS rfl rfl rfl (by decide) ?_; clear hS; intro aa hS
          refine sA hS hR (Yld.pickT hS rfl rfl) (by decide) ?_; clear hS; intro aa hS
          refine wpList_nil ?_
          refine hK509 _ _ ?_
          refine condT hS rfl ?_
          refine wp_seq_k ?_; intro K513 hK513
          refine wp_region_lit ?_
          refine sA hS hR (Yld.assign hS rfl) (by decide) ?_; clear hS; intro aa hS
          refine wpList_nil ?_
          refine hK513 _ _ ?_
          refine wp_ret ?_
          repeat (first | with_reducible refine thenR ?_ | with_reducible refine blockR ?_ | with_reducible refine scopeR ?_)
          refine ret1 (fn := Try.f39) (e := .ret) (.inl rfl) Try.results39 hS hR ⟨_, (.tmp rfl), ?_⟩
          have he : joinE n x0 y0 = 2 := if_pos (by omega)
          refine ⟨by rw [he], ?_⟩
          exact Sep.refI (TR := 70) (TS := 27) (TI := 3) (S := S) (b2 := b2) (n := n) hys (by rw [joinS, he]; rfl) rfl (hR.sub (by repeat (first | with_reducible exact Ex.refl | (with_reducible apply Ex.take; · repeat (first | with_reducible exact Pk.here | with_reducible apply Pk.there)) | with_reducible apply Ex.drop)))
        · intro hg hS
          refine sAg hS hR rfl rfl (Yld.move hS rfl) (by decide) ?_; clear hS; intro aa hS
          refine sAg hS hR rfl rfl (Yld.move hS rfl) (by decide) ?_; clear hS; intro aa hS
          refine sAg hS hR rfl rfl (Yld.eql hS rfl rfl) (by decide) ?_; clear hS; intro aa hS
          refine sA hS hR (Yld.pickF hS rfl rfl) (by decide) ?_; clear hS; intro aa hS
          refine wpList_nil ?_
          refine hK509 _ _ ?_
          refine hS.splitB (t := 35) rfl ?_ ?_ <;> clear hS
          · intro hg hS
            refine condT hS rfl ?_
            refine wp_seq_k ?_; intro K514 hK514
            refine wp_region_lit ?_
            refine sA hS hR (Yld.assign hS rfl) (by decide) ?_; clear hS; intro aa hS
            refine wpList_nil ?_
            refine hK514 _ _ ?_
            refine wp_ret ?_
            repeat (first | with_reducible refine thenR ?_ | with_reducible refine blockR ?_ | with_reducible refine scopeR ?_)
            refine ret1 (fn := Try.f39) (e := .ret) (.inl rfl) Try.results39 hS hR ⟨_, (.tmp rfl), ?_⟩
            have he : joinE n x0 y0 = 2 := if_pos (by omega)
            refine ⟨by rw [he], ?_⟩
            exact Sep.refI (TR := 70) (TS := 27) (TI := 3) (S := S) (b2 := b2) (n := n) hys (by rw [joinS, he]; rfl) rfl (hR.sub (by repeat (first | with_reducible exact Ex.refl | (with_reducible apply Ex.take; · repeat (first | with_reducible exact Pk.here | with_reducible apply Pk.there)) | with_reducible apply Ex.drop)))
          · intro hg hS
            obtain ⟨x0, rfl⟩ : ∃ z9 : Nat, x0 = z9 := ⟨(x0).toNat, by omega⟩
            obtain ⟨y0, rfl⟩ : ∃ z9 : Nat, y0 = z9 := ⟨(y0).toNat, by omega⟩
            have hx : x0 < n := by omega
            have hy : y0 < n := by omega
            have hxy : x0 ≠ y0 := by omega
            obtain ⟨rr, cr, hrow⟩ := hys.get (k := x0) (by omega)
            obtain ⟨zs, hzs⟩ : ∃ z, cst (L x0) = z := ⟨_, rfl⟩
            rw [hzs] at hrow
            obtain ⟨rf, cf, hrof⟩ := hys.get (k := y0) hy
            obtain ⟨zf, hzf⟩ : ∃ z, cst (L y0) = z := ⟨_, rfl⟩
            rw [hzf] at hrof
            have hzl : zs.length ≤ 8192 := by rw [← hzs, cst_len]; exact hL x0 hx
            have hzfl : zf.length ≤ 8192 := by rw [← hzf, cst_len]; exact hL y0 hy
            refine condF hS rfl ?_
            refine wp_skip ?_
            refine hK508 _ _ ?_
            refine wp_seq_k ?_; intro K515 hK515
            refine drawn (by kernel_rfl) hR (Ex.of_pk (r := sls r2 _ _ _ _ _) (by repeat (first | with_reducible exact Pk.here | with_reducible apply Pk.there))) ?_; clear hR; intro ww hR hR0
            refine dA 0 rfl (by kernel_rfl) (by kernel_rfl) (by kernel_rfl) (fun _ _ _ h => h) hS hR0 (Yld.move hS rfl) (by decide) ?_; clear hS; intro aa hS
            refine dA 1 rfl (by kernel_rfl) (by kernel_rfl) (by kernel_rfl) (fun _ _ _ h => h) hS hR0 (Yld.nilCheck hS rfl) (by decide) ?_; clear hS; intro aa hS
            refine dA 2 rfl (by kernel_rfl) (by kernel_rfl) (by kernel_rfl) (fun _ _ _ h => h) hS hR0 (Yld.fieldAddr hS rfl 1 Try.underlying70 rfl rfl info26 (by decide)) (by decide) ?_; clear hS; intro aa hS
            refine dA 3 rfl (by kernel_rfl) (by kernel_rfl) (by kernel_rfl) (fun _ _ _ h => h) hS hR0 (Yld.load1 hS rfl Try.underlying26 rfl (by first | exact Rd.blk (by repeat (first | with_reducible exact Pk.here | with_reducible apply Pk.there)) (by rfl) | exact Rd.rec (by repeat (first | with_reducible exact Pk.here | with_reducible apply Pk.there)) (by intro _; rfl) (by first | omega | (simp only [List.length_set, List.length_append, List.length_nil]; omega)) rfl | exact Rd.rec0 (by repeat (first | with_reducible exact Pk.here | with_reducible apply Pk.there)) (by intro _; rfl) (by first | omega | (simp only [List.length_set, List.length_append, List.length_nil]; omega)) rfl | exact Rd.flatJ (by repeat (first | with_reducible exact Pk.here | with_reducible apply Pk.there)) (by intro _; rfl) (by first | omega | (simp only [List.length_set, List.length_append, List.length_nil]; omega)) rfl | exact Rd.flat0 (by repeat (first | with_reducible exact Pk.here | with_reducible apply Pk.there)) (by intro _; rfl) (by first | omega | (simp only [List.length_set, List.length_append, List.length_nil]; omega)) rfl)) (by decide) ?_; clear hS; intro aa hS
            refine dA 4 rfl (by kernel_rfl) (by kernel_rfl) (by kernel_rfl) (fun _ _ _ h => h) hS hR0 (Yld.move hS rfl) (by decide) ?_; clear hS; intro aa hS
            refine dA 6 rfl (by kernel_rfl) (by kernel_rfl) (by kernel_rfl) (fun _ _ _ h => h) hS hR0 (Yld.move hS rfl) (by decide) ?_; clear hS; intro aa hS
            refine dA 7 rfl (by kernel_rfl) (by kernel_rfl) (by kernel_rfl) (fun _ _ _ h => h) hS hR0 (Yld.nilCheck hS rfl) (by decide) ?_; clear hS; intro aa hS
            refine dA 8 rfl (by kernel_rfl) (by kernel_rfl) (by kernel_rfl) (fun _ _ _ h => h) hS hR0 (Yld.fieldAddr hS rfl 1 Try.underlying70 rfl rfl info26 (by decide)) (by decide) ?_; clear hS; intro aa hS
            refine dA 9 rfl (by kernel_rfl) (by kernel_rfl) (by kernel_rfl) (fun _ _ _ h => h) hS hR0 (Yld.load1 hS rfl Try.underlying26 rfl (by first | exact Rd.blk (by repeat (first | with_reducible exact Pk.here | with_reducible apply Pk.there)) (by rfl) | exact Rd.rec (by repeat (first | with_reducible exact Pk.here | with_reducible apply Pk.there)) (by intro _; rfl) (by first | omega | (simp only [List.length_set, List.length_append, List.length_nil]; omega)) rfl | exact Rd.rec0 (by repeat (first | with_reducible exact Pk.here | with_reducible apply Pk.there)) (by intro _; rfl) (by first | omega | (simp only [List.length_set, List.length_append, List.length_nil]; omega)) rfl | exact Rd.flatJ (by repeat (first | with_reducible exact Pk.here | with_reducible apply Pk.there)) (by intro _; rfl) (by first | omega | (simp only [List.length_set, List.length_append, List.length_nil]; omega)) rfl | exact Rd.flat0 (by repeat (first | with_reducible exact Pk.here | with_reducible apply Pk.there)) (by intro _; rfl) (by first | omega | (simp only [List.length_set, List.length_append, List.length_nil]; omega)) rfl)) (by decide) ?_; clear hS; intro aa hS
            refine dA 10 rfl (by kernel_rfl) (by kernel_rfl) (by kernel_rfl) (fun _ _ _ h => h) hS hR0 (Yld.move hS rfl) (by decide) ?_; clear hS; intro aa hS
            refine dA 11 rfl (by kernel_rfl) (by kernel_rfl) (by kernel_rfl) (fun _ _ _ h => h) hS hR0 ((by first | exact Yld.indexH (sz := 1) (x0) hS rfl rfl Try.underlying26 info27 (by assumption) rfl (by first | rfl | omega) (by omega) | exact Yld.indexL (sz := 1) (x0) hS rfl rfl Try.underlying26 info27 (by repeat (first | with_reducible exact Pk.here | with_reducible apply Pk.there)) rfl (by first | rfl | omega) (by omega) | exact Yld.indexB (sz := 1) (x0) hS rfl rfl Try.underlying26 info27 rfl (by first | rfl | omega) (by omega))) (by decide) ?_; clear hS; intro aa hS
            refine dA 14 rfl (by kernel_rfl) (by kernel_rfl) (by kernel_rfl) (fun _ _ _ h => h) hS hR0 (Yld.move hS rfl) (by decide) ?_; clear hS; intro aa hS
            refine dA 15 rfl (by kernel_rfl) (by kernel_rfl) (by kernel_rfl) (fun _ _ _ h => h) hS hR0 (Yld.nilCheck hS rfl) (by decide) ?_; clear hS; intro aa hS
            refine dA 16 rfl (by kernel_rfl) (by kernel_rfl) (by kernel_rfl) (fun _ _ _ h => h) hS hR0 (Yld.fieldAddr hS rfl 1 Try.underlying70 rfl rfl info26 (by decide)) (by decide) ?_; clear hS; intro aa hS
            refine dA 17 rfl (by kernel_rfl) (by kernel_rfl) (by kernel_rfl) (fun _ _ _ h => h) hS hR0 (Yld.load1 hS rfl Try.underlying26 rfl (by first | exact Rd.blk (by repeat (first | with_reducible exact Pk.here | with_reducible apply Pk.there)) (by rfl) | exact Rd.rec (by repeat (first | with_reducible exact Pk.here | with_reducible apply Pk.there)) (by intro _; rfl) (by first | omega | (simp only [List.length_set, List.length_append, List.length_nil]; omega)) rfl | exact Rd.rec0 (by repeat (first | with_reducible exact Pk.here | with_reducible apply Pk.there)) (by intro _; rfl) (by first | omega | (simp only [List.length_set, List.length_append, List.length_nil]; omega)) rfl | exact Rd.flatJ (by repeat (first | with_reducible exact Pk.here | with_reducible apply Pk.there)) (by intro _; rfl) (by first | omega | (simp only [List.length_set, List.length_append, List.length_nil]; omega)) rfl | exact Rd.flat0 (by repeat (first | with_reducible exact Pk.here | with_reducible apply Pk.there)) (by intro _; rfl) (by first | omega | (simp only [List.length_set, List.length_append, List.length_nil]; omega)) rfl)) (by decide) ?_; clear hS; intro aa hS
            refine dA 18 rfl (by kernel_rfl) (by kernel_rfl) (by kernel_rfl) (fun _ _ _ h => h) hS hR0 (Yld.move hS rfl) (by decide) ?_; clear hS; intro aa hS
            refine dA 19 rfl (by kernel_rfl) (by kernel_rfl) (by kernel_rfl) (fun _ _ _ h => h) hS hR0 ((by first | exact Yld.indexH (sz := 1) (y0) hS rfl rfl Try.underlying26 info27 (by assumption) rfl (by first | rfl | omega) (by omega) | exact Yld.indexL (sz := 1) (y0) hS rfl rfl Try.underlying26 info27 (by repeat (first | with_reducible exact Pk.here | with_reducible apply Pk.there)) rfl (by first | rfl | omega) (by omega) | exact Yld.indexB (sz := 1) (y0) hS rfl rfl Try.underlying26 info27 rfl (by first | rfl | omega) (by omega))) (by decide) ?_; clear hS; intro aa hS
            refine dThree (i := 5) (j := 12) (m := 20) (by kernel_rfl) ?_ ?_ ?_
            ·
              refine dop rfl (BbuildSlice hS hR rfl (bls27_0_) (by decide) ?_); clear hS hR hR0; intro aa ww bb41 hS hR
              refine dnext (hR.sub (by repeat (first | with_reducible exact Ex.refl | (with_reducible apply Ex.take; · repeat (first | with_reducible exact Pk.here | with_reducible apply Pk.there)) | with_reducible apply Ex.drop))) ?_; intro hR0
              replace hR := hR.pk (r := blk bb41 _ _) (by repeat (first | with_reducible exact Pk.here | with_reducible apply Pk.there))
              replace hR := Sep.toRecs (m := 0) (sz := 1) (enc := e1) (([] : List Int)) hR rfl (by intro _; rfl) rfl
              refine dTwo (i := 12) (j := 20) (by kernel_rfl) ?_ ?_
              ·
                refine dop rfl (BA hS hR (Yld.load1 hS rfl Try.underlying27 rfl (Rd.rec0 (k := x0) (xs := ys) (v := .slice rr zs.length cr) (by repeat (first | with_reducible exact Pk.here | with_reducible apply Pk.there)) (by intro _; rfl) (by omega) (by rw [(List.getElem?_eq_some_iff.1 hrow).2]; rfl))) (by decide) ?_); clear hS; intro aa hS; refine ⟨hR0, ?_⟩
                refine dTwo (i := 13) (j := 20) (by kernel_rfl) ?_ ?_
                ·
                  refine dop rfl (BappendR (sz := 1) hS hR rfl rfl Try.underlying27 info3 rfl rfl (by rfl) (by repeat (first | with_reducible exact Pk.here | with_reducible apply Pk.there)) (XC.row (by repeat (first | with_reducible exact Pk.here | with_reducible apply Pk.there)) hrow) (by intro _; rfl) (by show (_ + _) * 8 ≤ _; first | omega | (simp only [List.length_set, List.length_append, List.length_nil]; omega)) (by first | omega | (simp only [List.length_set, List.length_append, List.length_nil]; omega)) (by first | rfl | (simp; done) | (simp; omega)) (by decide) ?_); clear hS hR hR0; intro aa ww r49 c49 hS hR
                  refine dnext (hR.sub (by repeat (first | with_reducible exact Ex.refl | (with_reducible apply Ex.take; · repeat (first | with_reducible exact Pk.here | with_reducible apply Pk.there)) | with_reducible apply Ex.drop))) ?_; intro hR0
                  refine dOne (i := 20) (by kernel_rfl) ?_
                  refine dop rfl (BA hS hR (Yld.load1 hS rfl Try.underlying27 rfl (Rd.rec0 (k := y0) (xs := ys) (v := .slice rf zf.length cf) (by repeat (first | with_reducible exact Pk.here | with_reducible apply Pk.there)) (by intro _; rfl) (by omega) (by rw [(List.getElem?_eq_some_iff.1 hrof).2]; rfl))) (by decide) ?_); clear hS; intro aa hS; refine ⟨hR0, ?_⟩
                  refine dOne (i := 21) (by kernel_rfl) ?_
                  refine dop rfl (BappendR (sz := 1) hS hR rfl rfl Try.underlying27 info3 rfl rfl (by rfl) (by repeat (first | with_reducible exact Pk.here | with_reducible apply Pk.there)) (XC.row (by repeat (first | with_reducible exact Pk.here | with_reducible apply Pk.there)) hrof) (by intro _; rfl) (by show (_ + _) * 8 ≤ _; first | omega | (simp only [List.length_set, List.length_append, List.length_nil]; omega)) (by first | omega | (simp only [List.length_set, List.length_append, List.length_nil]; omega)) (by first | rfl | (simp; done) | (simp; omega)) (by decide) ?_); clear hS hR hR0; intro aa ww r57 c57 hS hR
                  refine dnext (hR.sub (by repeat (first | with_reducible exact Ex.refl | (with_reducible apply Ex.take; · repeat (first | with_reducible exact Pk.here | with_reducible apply Pk.there)) | with_reducible apply Ex.drop))) ?_; intro hR0
                  refine dA 22 rfl (by kernel_rfl) (by kernel_rfl) (by kernel_rfl) (fun _ _ _ h => h) hS hR0 ((by first | exact Yld.indexH (sz := 1) (x0) hS rfl rfl Try.underlying26 info27 (by assumption) rfl (by first | rfl | omega) (by omega) | exact Yld.indexL (sz := 1) (x0) hS rfl rfl Try.underlying26 info27 (by repeat (first | with_reducible exact Pk.here | with_reducible apply Pk.there)) rfl (by first | rfl | omega) (by omega) | exact Yld.indexB (sz := 1) (x0) hS rfl rfl Try.underlying26 info27 rfl (by first | rfl | omega) (by omega))) (by decide) ?_; clear hS; intro aa hS
                  refine dOne (i := 23) (by kernel_rfl) ?_
                  refine dop rfl (BstoreR0 (((r57, c57), ([] ++ zs) ++ zf)) hS hR rfl rfl (by rfl) info27 (by rfl) (by repeat (first | with_reducible exact Pk.here | with_reducible apply Pk.there)) (by rfl) (by intro _; rfl) (by first | omega | (simp only [List.length_set, List.length_append, List.length_nil]; omega)) (by first | exact Nat.le_of_ble_eq_true rfl | (simp only [List.length_singleton]; omega)) (Nat.le_of_ble_eq_true rfl) (by rfl) ?_); clear hR hR0; intro ww hR
                  refine dnext (hR.sub (by repeat (first | with_reducible exact Ex.refl | (with_reducible apply Ex.take; · repeat (first | with_reducible exact Pk.here | with_reducible apply Pk.there)) | with_reducible apply Ex.drop))) ?_; intro hR0
                  replace hR := Sep.rowPut (TI := 3) (i := x0) (xs := ([] ++ zs) ++ zf) ((hR.pk (r := sls r57 _ _ _ _ _) (by repeat (first | with_reducible exact Pk.here | with_reducible apply Pk.there))).pk (r := rowsH _ _) (by repeat (first | with_reducible exact Pk.here | with_reducible apply Pk.there))) (by simp) (by omega)
                  refine wpAnyH_done (by kernel_rfl) ?_ _; clear hR0
                  refine hK515 _ _ ?_
                  refine wp_seq_k ?_; intro K516 hK516
                  refine wp_region_lit ?_
                  refine sA hS hR (Yld.move hS rfl) (by decide) ?_; clear hS; intro aa hS
                  refine sA hS hR (Yld.nilCheck hS rfl) (by decide) ?_; clear hS; intro aa hS
                  refine sA hS hR (Yld.fieldAddr hS rfl 1 Try.underlying70 rfl rfl info26 (by decide)) (by decide) ?_; clear hS; intro aa hS
                  refine sA hS hR (Yld.load1 hS rfl Try.underlying26 rfl (by first | exact Rd.blk (by repeat (first | with_reducible exact Pk.here | with_reducible apply Pk.there)) (by rfl) | exact Rd.rec (by repeat (first | with_reducible exact Pk.here | with_reducible apply Pk.there)) (by intro _; rfl) (by first | omega | (simp only [List.length_set, List.length_append, List.length_nil]; omega)) rfl | exact Rd.rec0 (by repeat (first | with_reducible exact Pk.here | with_reducible apply Pk.there)) (by intro _; rfl) (by first | omega | (simp only [List.length_set, List.length_append, List.length_nil]; omega)) rfl | exact Rd.flatJ (by repeat (first | with_reducible exact Pk.here | with_reducible apply Pk.there)) (by intro _; rfl) (by first | omega | (simp only [List.length_set, List.length_append, List.length_nil]; omega)) rfl | exact Rd.flat0 (by repeat (first | with_reducible exact Pk.here | with_reducible apply Pk.there)) (by intro _; rfl) (by first | omega | (simp only [List.length_set, List.length_append, List.length_nil]; omega)) rfl)) (by decide) ?_; clear hS; intro aa hS
                  refine sA hS hR (Yld.move hS rfl) (by decide) ?_; clear hS; intro aa hS
                  refine sA hS hR ((by first | exact Yld.indexH (sz := 1) (y0) hS rfl rfl Try.underlying26 info27 (by assumption) rfl (by first | rfl | omega) (by omega) | exact Yld.indexL (sz := 1) (y0) hS rfl rfl Try.underlying26 info27 (by repeat (first | with_reducible exact Pk.here | with_reducible apply Pk.there)) rfl (by first | rfl | omega) (by omega) | exact Yld.indexB (sz := 1) (y0) hS rfl rfl Try.underlying26 info27 rfl (by first | rfl | omega) (by omega))) (by decide) ?_; clear hS; intro aa hS
                  refine sB (BstoreR0 ((((none, 0), []) : Row)) hS hR rfl rfl (by rfl) info27 (by rfl) (by repeat (first | with_reducible exact Pk.here | with_reducible apply Pk.there)) (by rfl) (by intro _; rfl) (by first | omega | (simp only [List.length_set, List.length_append, List.length_nil]; omega)) (by first | exact Nat.le_of_ble_eq_true rfl | (simp only [List.length_singleton]; omega)) (Nat.le_of_ble_eq_true rfl) (by rfl) ?_); clear hR; intro ww hR
                  replace hR := hR.slsNil (T := 3) (sz := 1)
                  change Sep (sls none ([] : List Int).length 0 3 1 (([] : List Int).flatMap e1) :: _) _ at hR
                  replace hR := Sep.rowPut (TI := 3) (i := y0) (xs := []) (hR.pk (r := rowsH _ _) (by repeat (first | with_reducible exact Pk.here | with_reducible apply Pk.there))) rfl (by rw [List.length_set]; omega)
                  refine wpList_nil ?_
                  refine hK516 _ _ ?_
                  refine wp_seq_k ?_; intro K517 hK517
                  refine wp_region_lit ?_
                  refine sA hS hR (Yld.assign hS rfl) (by decide) ?_; clear hS; intro aa hS
                  refine wpList_nil ?_
                  refine hK517 _ _ ?_
                  refine wp_ret ?_
                  repeat (first | with_reducible refine thenR ?_ | with_reducible refine blockR ?_ | with_reducible refine scopeR ?_)
                  refine ret1 (fn := Try.f39) (e := .ret) (.inl rfl) Try.results39 hS hR ⟨_, (.tmp rfl), ?_⟩
                  have he : joinE n (x0 : Int) (y0 : Int) = 0 := if_neg (by omega)
                  refine ⟨by rw [he], ?_⟩
                  exact Sep.refI (TR := 70) (TS := 27) (TI := 3) (S := S) (b2 := b2) (n := n) (m := ys.length) ((hys.set (k := x0) (M := L x0 ++ L y0) (p := (r57, c57)) (xs := ([] ++ zs) ++ zf) hx (by rw [← hzs, ← hzf]; simp [cst])).set (k := y0) (M := []) (p := (none, 0)) (xs := []) hy rfl) (by rw [joinS, he, if_pos rfl, Int.toNat_natCast, Int.toNat_natCast, upd_comm (Ne.symm hxy)]) (by simp) (hR.sub (by repeat (first | with_reducible exact Ex.refl | (with_reducible apply Ex.take; · repeat (first | with_reducible exact Pk.here | with_reducible apply Pk.there)) | with_reducible apply Ex.drop)))
                ·
                  refine dop rfl (BA hS hR (Yld.load1 hS rfl Try.underlying27 rfl (Rd.rec0 (k := y0) (xs := ys) (v := .slice rf zf.length cf) (by repeat (first | with_reducible exact Pk.here | with_reducible apply Pk.there)) (by intro _; rfl) (by omega) (by rw [(List.getElem?_eq_some_iff.1 hrof).2]; rfl))) (by decide) ?_); clear hS; intro aa hS; refine ⟨hR0, ?_⟩
                  refine dOne (i := 13) (by kernel_rfl) ?_
                  refine dop rfl (BappendR (sz := 1) hS hR rfl rfl Try.underlying27 info3 rfl rfl (by rfl) (by repeat (first | with_reducible exact Pk.here | with_reducible apply Pk.there)) (XC.row (by repeat (first | with_reducible exact Pk.here | with_reducible apply Pk.there)) hrow) (by intro _; rfl) (by show (_ + _) * 8 ≤ _; first | omega | (simp only [List.length_set, List.length_append, List.length_nil]; omega)) (by first | omega | (simp only [List.length_set, List.length_append, List.length_nil]; omega)) (by first | rfl | (simp; done) | (simp; omega)) (by decide) ?_); clear hS hR hR0; intro aa ww r49 c49 hS hR
                  refine dnext (hR.sub (by repeat (first | with_reducible exact Ex.refl | (with_reducible apply Ex.take; · repeat (first | with_reducible exact Pk.here | with_reducible apply Pk.there)) | with_reducible apply Ex.drop))) ?_; intro hR0
                  refine dOne (i := 21) (by kernel_rfl) ?_
                  refine dop rfl (BappendR (sz := 1) hS hR rfl rfl Try.underlying27 info3 rfl rfl (by rfl) (by repeat (first | with_reducible exact Pk.here | with_reducible apply Pk.there)) (XC.row (by repeat (first | with_reducible exact Pk.here | with_reducible apply Pk.there)) hrof) (by intro _; rfl) (by show (_ + _) * 8 ≤ _; first | omega | (simp only [List.length_set, List.length_append, List.length_nil]; omega)) (by first | omega | (simp only [List.length_set, List.length_append, List.length_nil]; omega)) (by first | rfl | (simp; done) | (simp; omega)) (by decide) ?_); clear hS hR hR0; intro aa ww r57 c57 hS hR
                  refine dnext (hR.sub (by repeat (first | with_reducible exact Ex.refl | (with_reducible apply Ex.take; · repeat (first | with_reducible exact Pk.here | with_reducible apply Pk.there)) | with_reducible apply Ex.drop))) ?_; intro hR0
                  refine dA 22 rfl (by kernel_rfl) (by kernel_rfl) (by kernel_rfl) (fun _ _ _ h => h) hS hR0 ((by first | exact Yld.indexH (sz := 1) (x0) hS rfl rfl Try.underlying26 info27 (by assumption) rfl (by first | rfl | omega) (by omega) | exact Yld.indexL (sz := 1) (x0) hS rfl rfl Try.underlying26 info27 (by repeat (first | with_reducible exact Pk.here | with_reducible apply Pk.there)) rfl (by first | rfl | omega) (by omega) | exact Yld.indexB (sz := 1) (x0) hS rfl rfl Try.underlying26 info27 rfl (by first | rfl | omega) (by omega))) (by decide) ?_; clear hS; intro aa hS
                  refine dOne (i := 23) (by kernel_rfl) ?_
                  refine dop rfl (BstoreR0 (((r57, c57), ([] ++ zs) ++ zf)) hS hR rfl rfl (by rfl) info27 (by rfl) (by repeat (first | with_reducible exact Pk.here | with_reducible apply Pk.there)) (by rfl) (by intro _; rfl) (by first | omega | (simp only [List.length_set, List.length_append, List.length_nil]; omega)) (by first | exact Nat.le_of_ble_eq_true rfl | (simp only [List.length_singleton]; omega)) (Nat.le_of_ble_eq_true rfl) (by rfl) ?_); clear hR hR0; intro ww hR
                  refine dnext (hR.sub (by repeat (first | with_reducible exact Ex.refl | (with_reducible apply Ex.take; · repeat (first | with_reducible exact Pk.here | with_reducible apply Pk.there)) | with_reducible apply Ex.drop))) ?_; intro hR0
                  replace hR := Sep.rowPut (TI := 3) (i := x0) (xs := ([] ++ zs) ++ zf) ((hR.pk (r := sls r57 _ _ _ _ _) (by repeat (first | with_reducible exact Pk.here | with_reducible apply Pk.there))).pk (r := rowsH _ _) (by repeat (first | with_reducible exact Pk.here | with_reducible apply Pk.there))) (by simp) (by omega)
                  refine wpAnyH_done (by kernel_rfl) ?_ _; clear hR0
                  refine hK515 _ _ ?_
                  refine wp_seq_k ?_; intro K518 hK518
                  refine wp_region_lit ?_
                  refine sA hS hR (Yld.move hS rfl) (by decide) ?_; clear hS; intro aa hS
                  refine sA hS hR (Yld.nilCheck hS rfl) (by decide) ?_; clear hS; intro aa hS
                  refine sA hS hR (Yld.fieldAddr hS rfl 1 Try.underlying70 rfl rfl info26 (by decide)) (by decide) ?_; clear hS; intro aa hS
                  refine sA hS hR (Yld.load1 hS rfl Try.underlying26 rfl (by first | exact Rd.blk (by repeat (first | with_reducible exact Pk.here | with_reducible apply Pk.there)) (by rfl) | exact Rd.rec (by repeat (first | with_reducible exact Pk.here | with_reducible apply Pk.there)) (by intro _; rfl) (by first | omega | (simp only [List.length_set, List.length_append, List.length_nil]; omega)) rfl | exact Rd.rec0 (by repeat (first | with_reducible exact Pk.here | with_reducible apply Pk.there)) (by intro _; rfl) (by first | omega | (simp only [List.length_set, List.length_append, List.length_nil]; omega)) rfl | exact Rd.flatJ (by repeat (first | with_reducible exact Pk.here | with_reducible apply Pk.there)) (by intro _; rfl) (by first | omega | (simp only [List.length_set, List.length_append, List.length_nil]; omega)) rfl | exact Rd.flat0 (by repeat (first | with_reducible exact Pk.here | with_reducible apply Pk.there)) (by intro _; rfl) (by first | omega | (simp only [List.length_set, List.length_append, List.length_nil]; omega)) rfl)) (by decide) ?_; clear hS; intro aa hS
                  refine sA hS hR (Yld.move hS rfl) (by decide) ?_; clear hS; intro aa hS
                  refine sA hS hR ((by first | exact Yld.indexH (sz := 1) (y0) hS rfl rfl Try.underlying26 info27 (by assumption) rfl (by first | rfl | omega) (by omega) | exact Yld.indexL (sz := 1) (y0) hS rfl rfl Try.underlying26 info27 (by repeat (first | with_reducible exact Pk.here | with_reducible apply Pk.there)) rfl (by first | rfl | omega) (by omega) | exact Yld.indexB (sz := 1) (y0) hS rfl rfl Try.underlying26 info27 rfl (by first | rfl | omega) (by omega))) (by decide) ?_; clear hS; intro aa hS
                  refine sB (BstoreR0 ((((none, 0), []) : Row)) hS hR rfl rfl (by rfl) info27 (by rfl) (by repeat (first | with_reducible exact Pk.here | with_reducible apply Pk.there)) (by rfl) (by intro _; rfl) (by first | omega | (simp only [List.length_set, List.length_append, List.length_nil]; omega)) (by first | exact Nat.le_of_ble_eq_true rfl | (simp only [List.length_singleton]; omega)) (Nat.le_of_ble_eq_true rfl) (by rfl) ?_); clear hR; intro ww hR
                  replace hR := hR.slsNil (T := 3) (sz := 1)
                  change Sep (sls none ([] : List Int).length 0 3 1 (([] : List Int).flatMap e1) :: _) _ at hR
                  replace hR := Sep.rowPut (TI := 3) (i := y0) (xs := []) (hR.pk (r := rowsH _ _) (by repeat (first | with_reducible exact Pk.here | with_reducible apply Pk.there))) rfl (by rw [List.length_set]; omega)
                  refine wpList_nil ?_
                  refine hK518 _ _ ?_
                  refine wp_seq_k ?_; intro K519 hK519
                  refine wp_region_lit ?_
                  refine sA hS hR (Yld.assign hS rfl) (by decide) ?_; clear hS; intro aa hS
                  refine wpList_nil ?_
                  refine hK519 _ _ ?_
                  refine wp_ret ?_
                  repeat (first | with_reducible refine thenR ?_ | with_reducible refine blockR ?_ | with_reducible refine scopeR ?_)
                  refine ret1 (fn := Try.f39) (e := .ret) (.inl rfl) Try.results39 hS hR ⟨_, (.tmp rfl), ?_⟩
                  have he : joinE n (x0 : Int) (y0 : Int) = 0 := if_neg (by omega)
                  refine ⟨by rw [he], ?_⟩
                  exact Sep.refI (TR := 70) (TS := 27) (TI := 3) (S := S) (b2 := b2) (n := n) (m := ys.length) ((hys.set (k := x0) (M := L x0 ++ L y0) (p := (r57, c57)) (xs := ([] ++ zs) ++ zf) hx (by rw [← hzs, ← hzf]; simp [cst])).set (k := y0) (M := []) (p := (none, 0)) (xs := []) hy rfl) (by rw [joinS, he, if_pos rfl, Int.toNat_natCast, Int.toNat_natCast, upd_comm (Ne.symm hxy)]) (by simp) (hR.sub (by repeat (first | with_reducible exact Ex.refl | (with_reducible apply Ex.take; · repeat (first | with_reducible exact Pk.here | with_reducible apply Pk.there)) | with_reducible apply Ex.drop)))
              ·
                refine dop rfl (BA hS hR (Yld.load1 hS rfl Try.underlying27 rfl (Rd.rec0 (k := y0) (xs := ys) (v := .slice rf zf.length cf) (by repeat (first | with_reducible exact Pk.here | with_reducible apply Pk.there)) (by intro _; rfl) (by omega) (by rw [(List.getElem?_eq_some_iff.1 hrof).2]; rfl))) (by decide) ?_); clear hS; intro aa hS; refine ⟨hR0, ?_⟩
                refine dOne (i := 12) (by kernel_rfl) ?_
                refine dop rfl (BA hS hR (Yld.load1 hS rfl Try.underlying27 rfl (Rd.rec0 (k := x0) (xs := ys) (v := .slice rr zs.length cr) (by repeat (first | with_reducible exact Pk.here | with_reducible apply Pk.there)) (by intro _; rfl) (by omega) (by rw [(List.getElem?_eq_some_iff.1 hrow).2]; rfl))) (by decide) ?_); clear hS; intro aa hS; refine ⟨hR0, ?_⟩
                refine dOne (i := 13) (by kernel_rfl) ?_
                refine dop rfl (BappendR (sz := 1) hS hR rfl rfl Try.underlying27 info3 rfl rfl (by rfl) (by repeat (first | with_reducible exact Pk.here | with_reducible apply Pk.there)) (XC.row (by repeat (first | with_reducible exact Pk.here | with_reducible apply Pk.there)) hrow) (by intro _; rfl) (by show (_ + _) * 8 ≤ _; first | omega | (simp only [List.length_set, List.length_append, List.length_nil]; omega)) (by first | omega | (simp only [List.length_set, List.length_append, List.length_nil]; omega)) (by first | rfl | (simp; done) | (simp; omega)) (by decide) ?_); clear hS hR hR0; intro aa ww r49 c49 hS hR
                refine dnext (hR.sub (by repeat (first | with_reducible exact Ex.refl | (with_reducible apply Ex.take; · repeat (first | with_reducible exact Pk.here | with_reducible apply Pk.there)) | with_reducible apply Ex.drop))) ?_; intro hR0
                refine dOne (i := 21) (by kernel_rfl) ?_
                refine dop rfl (BappendR (sz := 1) hS hR rfl rfl Try.underlying27 info3 rfl rfl (by rfl) (by repeat (first | with_reducible exact Pk.here | with_reducible apply Pk.there)) (XC.row (by repeat (first | with_reducible exact Pk.here | with_reducible apply Pk.there)) hrof) (by intro _; rfl) (by show (_ + _) * 8 ≤ _; first | omega | (simp only [List.length_set, List.length_append, List.length_nil]; omega)) (by first | omega | (simp only [List.length_set, List.length_append, List.length_nil]; omega)) (by first | rfl | (simp; done) | (simp; omega)) (by decide) ?_); clear hS hR hR0; intro aa ww r57 c57 hS hR
                refine dnext (hR.sub (by repeat (first | with_reducible exact Ex.refl | (with_reducible apply Ex.take; · repeat (first | with_reducible exact Pk.here | with_reducible apply Pk.there)) | with_reducible apply Ex.drop))) ?_; intro hR0
                refine dA 22 rfl (by kernel_rfl) (by kernel_rfl) (by kernel_rfl) (fun _ _ _ h => h) hS hR0 ((by first | exact Yld.indexH (sz := 1) (x0) hS rfl rfl Try.underlying26 info27 (by assumption) rfl (by first | rfl | omega) (by omega) | exact Yld.indexL (sz := 1) (x0) hS rfl rfl Try.underlying26 info27 (by repeat (first | with_reducible exact Pk.here | with_reducible apply Pk.there)) rfl (by first | rfl | omega) (by omega) | exact Yld.indexB (sz := 1) (x0) hS rfl rfl Try.underlying26 info27 rfl (by first | rfl | omega) (by omega))) (by decide) ?_; clear hS; intro aa hS
                refine dOne (i := 23) (by kernel_rfl) ?_
                refine dop rfl (BstoreR0 (((r57, c57), ([] ++ zs) ++ zf)) hS hR rfl rfl (by rfl) info27 (by rfl) (by repeat (first | with_reducible exact Pk.here | with_reducible apply Pk.there)) (by rfl) (by intro _; rfl) (by first | omega | (simp only [List.length_set, List.length_append, List.length_nil]; omega)) (by first | exact Nat.le_of_ble_eq_true rfl | (simp only [List.length_singleton]; omega)) (Nat.le_of_ble_eq_true rfl) (by rfl) ?_); clear hR hR0; intro ww hR
                refine dnext (hR.sub (by repeat (first | with_reducible exact Ex.refl | (with_reducible apply Ex.take; · repeat (first | with_reducible exact Pk.here | with_reducible apply Pk.there)) | with_reducible apply Ex.drop))) ?_; intro hR0
                replace hR := Sep.rowPut (TI := 3) (i := x0) (xs := ([] ++ zs) ++ zf) ((hR.pk (r := sls r57 _ _ _ _ _) (by repeat (first | with_reducible exact Pk.here | with_reducible apply Pk.there))).pk (r := rowsH _ _) (by repeat (first | with_reducible exact Pk.here | with_reducible apply Pk.there))) (by simp) (by omega)
                refine wpAnyH_done (by kernel_rfl) ?_ _; clear hR0
                refine hK515 _ _ ?_
                refine wp_seq_k ?_; intro K520 hK520
                refine wp_region_lit ?_
                refine sA hS hR (Yld.move hS rfl) (by decide) ?_; clear hS; intro aa hS
                refine sA hS hR (Yld.nilCheck hS rfl) (by decide) ?_; clear hS; intro aa hS
                refine sA hS hR (Yld.fieldAddr hS rfl 1 Try.underlying70 rfl rfl info26 (by decide)) (by decide) ?_; clear hS; intro aa hS
                refine sA hS hR (Yld.load1 hS rfl Try.underlying26 rfl (by first | exact Rd.blk (by repeat (first | with_reducible exact Pk.here | with_reducible apply Pk.there)) (by rfl) | exact Rd.rec (by repeat (first | with_reducible exact Pk.here | with_reducible apply Pk.there)) (by intro _; rfl) (by first | omega | (simp only [List.length_set, List.length_append, List.length_nil]; omega)) rfl | exact Rd.rec0 (by repeat (first | with_reducible exact Pk.here | with_reducible apply Pk.there)) (by intro _; rfl) (by first | omega | (simp only [List.length_set, List.length_append, List.length_nil]; omega)) rfl | exact Rd.flatJ (by repeat (first | with_reducible exact Pk.here | with_reducible apply Pk.there)) (by intro _; rfl) (by first | omega | (simp only [List.length_set, List.length_append, List.length_nil]; omega)) rfl | exact Rd.flat0 (by repeat (first | with_reducible exact Pk.here | with_reducible apply Pk.there)) (by intro _; rfl) (by first | omega | (simp only [List.length_set, List.length_append, List.length_nil]; omega)) rfl)) (by decide) ?_; clear hS; intro aa hS
                refine sA hS hR (Yld.move hS rfl) (by decide) ?_; clear hS; intro aa hS
                refine sA hS hR ((by first | exact Yld.indexH (sz := 1) (y0) hS rfl rfl Try.underlying26 info27 (by assumption) rfl (by first | rfl | omega) (by omega) | exact Yld.indexL (sz := 1) (y0) hS rfl rfl Try.underlying26 info27 (by repeat (first | with_reducible exact Pk.here | with_reducible apply Pk.there)) rfl (by first | rfl | omega) (by omega) | exact Yld.indexB (sz := 1) (y0) hS rfl rfl Try.underlying26 info27 rfl (by first | rfl | omega) (by omega))) (by decide) ?_; clear hS; intro aa hS
                refine sB (BstoreR0 ((((none, 0), []) : Row)) hS hR rfl rfl (by rfl) info27 (by rfl) (by repeat (first | with_reducible exact Pk.here | with_reducible apply Pk.there)) (by rfl) (by intro _; rfl) (by first | omega | (simp only [List.length_set, List.length_append, List.length_nil]; omega)) (by first | exact Nat.le_of_ble_eq_true rfl | (simp only [List.length_singleton]; omega)) (Nat.le_of_ble_eq_true rfl) (by rfl) ?_); clear hR; intro ww hR
                replace hR := hR.slsNil (T := 3) (sz := 1)
                change Sep (sls none ([] : List Int).length 0 3 1 (([] : List Int).flatMap e1) :: _) _ at hR
                replace hR := Sep.rowPut (TI := 3) (i := y0) (xs := []) (hR.pk (r := rowsH _ _) (by repeat (first | with_reducible exact Pk.here | with_reducible apply Pk.there))) rfl (by rw [List.length_set]; omega)
                refine wpList_nil ?_
                refine hK520 _ _ ?_
                refine wp_seq_k ?_; intro K521 hK521
                refine wp_region_lit ?_
                refine sA hS hR (Yld.assign hS rfl) (by decide) ?_; clear hS; intro aa hS
                refine wpList_nil ?_
                refine hK521 _ _ ?_
                refine wp_ret ?_
                repeat (first | with_reducible refine thenR ?_ | with_reducible refine blockR ?_ | with_reducible refine scopeR ?_)
                refine ret1 (fn := Try.f39) (e := .ret) (.inl rfl) Try.results39 hS hR ⟨_, (.tmp rfl), ?_⟩
                have he : joinE n (x0 : Int) (y0 : Int) = 0 := if_neg (by omega)
                refine ⟨by rw [he], ?_⟩
                exact Sep.refI (TR := 70) (TS := 27) (TI := 3) (S := S) (b2 := b2) (n := n) (m := ys.length) ((hys.set (k := x0) (M := L x0 ++ L y0) (p := (r57, c57)) (xs := ([] ++ zs) ++ zf) hx (by rw [← hzs, ← hzf]; simp [cst])).set (k := y0) (M := []) (p := (none, 0)) (xs := []) hy rfl) (by rw [joinS, he, if_pos rfl, Int.toNat_natCast, Int.toNat_natCast, upd_comm (Ne.symm hxy)]) (by simp) (hR.sub (by repeat (first | with_reducible exact Ex.refl | (with_reducible apply Ex.take; · repeat (first | with_reducible exact Pk.here | with_reducible apply Pk.there)) | with_reducible apply Ex.drop)))
            ·
              refine dop rfl (BA hS hR (Yld.load1 hS rfl Try.underlying27 rfl (Rd.rec0 (k := x0) (xs := ys) (v := .slice rr zs.length cr) (by repeat (first | with_reducible exact Pk.here | with_reducible apply Pk.there)) (by intro _; rfl) (by omega) (by rw [(List.getElem?_eq_some_iff.1 hrow).2]; rfl))) (by decide) ?_); clear hS; intro aa hS; refine ⟨hR0, ?_⟩
              refine dTwo (i := 5) (j := 20) (by kernel_rfl) ?_ ?_
              ·
                refine dop rfl (BbuildSlice hS hR rfl (bls27_0_) (by decide) ?_); clear hS hR hR0; intro aa ww bb41 hS hR
                refine dnext (hR.sub (by repeat (first | with_reducible exact Ex.refl | (with_reducible apply Ex.take; · repeat (first | with_reducible exact Pk.here | with_reducible apply Pk.there)) | with_reducible apply Ex.drop))) ?_; intro hR0
                replace hR := hR.pk (r := blk bb41 _ _) (by repeat (first | with_reducible exact Pk.here | with_reducible apply Pk.there))
                replace hR := Sep.toRecs (m := 0) (sz := 1) (enc := e1) (([] : List Int)) hR rfl (by intro _; rfl) rfl
                refine dTwo (i := 13) (j := 20) (by kernel_rfl) ?_ ?_
                ·
                  refine dop rfl (BappendR (sz := 1) hS hR rfl rfl Try.underlying27 info3 rfl rfl (by rfl) (by repeat (first | with_reducible exact Pk.here | with_reducible apply Pk.there)) (XC.row (by repeat (first | with_reducible exact Pk.here | with_reducible apply Pk.there)) hrow) (by intro _; rfl) (by show (_ + _) * 8 ≤ _; first | omega | (simp only [List.length_set, List.length_append, List.length_nil]; omega)) (by first | omega | (simp only [List.length_set, List.length_append, List.length_nil]; omega)) (by first | rfl | (simp; done) | (simp; omega)) (by decide) ?_); clear hS hR hR0; intro aa ww r49 c49 hS hR
                  refine dnext (hR.sub (by repeat (first | with_reducible exact Ex.refl | (with_reducible apply Ex.take; · repeat (first | with_reducible exact Pk.here | with_reducible apply Pk.there)) | with_reducible apply Ex.drop))) ?_; intro hR0
                  refine dOne (i := 20) (by kernel_rfl) ?_
                  refine dop rfl (BA hS hR (Yld.load1 hS rfl Try.underlying27 rfl (Rd.rec0 (k := y0) (xs := ys) (v := .slice rf zf.length cf) (by repeat (first | with_reducible exact Pk.here | with_reducible apply Pk.there)) (by intro _; rfl) (by omega) (by rw [(List.getElem?_eq_some_iff.1 hrof).2]; rfl))) (by decide) ?_); clear hS; intro aa hS; refine ⟨hR0, ?_⟩
                  refine dOne (i := 21) (by kernel_rfl) ?_
                  refine dop rfl (BappendR (sz := 1) hS hR rfl rfl Try.underlying27 info3 rfl rfl (by rfl) (by repeat (first | with_reducible exact Pk.here | with_reducible apply Pk.there)) (XC.row (by repeat (first | with_reducible exact Pk.here | with_reducible apply Pk.there)) hrof) (by intro _; rfl) (by show (_ + _) * 8 ≤ _; first | omega | (simp only [List.length_set, List.length_append, List.length_nil]; omega)) (by first | omega | (simp only [List.length_set, List.length_append, List.length_nil]; omega)) (by first | rfl | (simp; done) | (simp; omega)) (by decide) ?_); clear hS hR hR0; intro aa ww r57 c57 hS hR
                  refine dnext (hR.sub (by repeat (first | with_reducible exact Ex.refl | (with_reducible apply Ex.take; · repeat (first | with_reducible exact Pk.here | with_reducible apply Pk.there)) | with_reducible apply Ex.drop))) ?_; intro hR0
                  refine dA 22 rfl (by kernel_rfl) (by kernel_rfl) (by kernel_rfl) (fun _ _ _ h => h) hS hR0 ((by first | exact Yld.indexH (sz := 1) (x0) hS rfl rfl Try.underlying26 info27 (by assumption) rfl (by first | rfl | omega) (by omega) | exact Yld.indexL (sz := 1) (x0) hS rfl rfl Try.underlying26 info27 (by repeat (first | with_reducible exact Pk.here | with_reducible apply Pk.there)) rfl (by first | rfl | omega) (by omega) | exact Yld.indexB (sz := 1) (x0) hS rfl rfl Try.underlying26 info27 rfl (by first | rfl | omega) (by omega))) (by decide) ?_; clear hS; intro aa hS
                  refine dOne (i := 23) (by kernel_rfl) ?_
                  refine dop rfl (BstoreR0 (((r57, c57), ([] ++ zs) ++ zf)) hS hR rfl rfl (by rfl) info27 (by rfl) (by repeat (first | with_reducible exact Pk.here | with_reducible apply Pk.there)) (by rfl) (by intro _; rfl) (by first | omega | (simp only [List.length_set, List.length_append, List.length_nil]; omega)) (by first | exact Nat.le_of_ble_eq_true rfl | (simp only [List.length_singleton]; omega)) (Nat.le_of_ble_eq_true rfl) (by rfl) ?_); clear hR hR0; intro ww hR
                  refine dnext (hR.sub (by repeat (first | with_reducible exact Ex.refl | (with_reducible apply Ex.take; · repeat (first | with_reducible exact Pk.here | with_reducible apply Pk.there)) | with_reducible apply Ex.drop))) ?_; intro hR0
                  replace hR := Sep.rowPut (TI := 3) (i := x0) (xs := ([] ++ zs) ++ zf) ((hR.pk (r := sls r57 _ _ _ _ _) (by repeat (first | with_reducible exact Pk.here | with_reducible apply Pk.there))).pk (r := rowsH _ _) (by repeat (first | with_reducible exact Pk.here | with_reducible apply Pk.there))) (by simp) (by omega)
                  refine wpAnyH_done (by kernel_rfl) ?_ _; clear hR0
                  refine hK515 _ _ ?_
                  refine wp_seq_k ?_; intro K522 hK522
                  refine wp_region_lit ?_
                  refine sA hS hR (Yld.move hS rfl) (by decide) ?_; clear hS; intro aa hS
                  refine sA hS hR (Yld.nilCheck hS rfl) (by decide) ?_; clear hS; intro aa hS
                  refine sA hS hR (Yld.fieldAddr hS rfl 1 Try.underlying70 rfl rfl info26 (by decide)) (by decide) ?_; clear hS; intro aa hS
                  refine sA hS hR (Yld.load1 hS rfl Try.underlying26 rfl (by first | exact Rd.blk (by repeat (first | with_reducible exact Pk.here | with_reducible apply Pk.there)) (by rfl) | exact Rd.rec (by repeat (first | with_reducible exact Pk.here | with_reducible apply Pk.there)) (by intro _; rfl) (by first | omega | (simp only [List.length_set, List.length_append, List.length_nil]; omega)) rfl | exact Rd.rec0 (by repeat (first | with_reducible exact Pk.here | with_reducible apply Pk.there)) (by intro _; rfl) (by first | omega | (simp only [List.length_set, List.length_append, List.length_nil]; omega)) rfl | exact Rd.flatJ (by repeat (first | with_reducible exact Pk.here | with_reducible apply Pk.there)) (by intro _; rfl) (by first | omega | (simp only [List.length_set, List.length_append, List.length_nil]; omega)) rfl | exact Rd.flat0 (by repeat (first | with_reducible exact Pk.here | with_reducible apply Pk.there)) (by intro _; rfl) (by first | omega | (simp only [List.length_set, List.length_append, List.length_nil]; omega)) rfl)) (by decide) ?_; clear hS; intro aa hS
                  refine sA hS hR (Yld.move hS rfl) (by decide) ?_; clear hS; intro aa hS
                  refine sA hS hR ((by first | exact Yld.indexH (sz := 1) (y0) hS rfl rfl Try.underlying26 info27 (by assumption) rfl (by first | rfl | omega) (by omega) | exact Yld.indexL (sz := 1) (y0) hS rfl rfl Try.underlying26 info27 (by repeat (first | with_reducible exact Pk.here | with_reducible apply Pk.there)) rfl (by first | rfl | omega) (by omega) | exact Yld.indexB (sz := 1) (y0) hS rfl rfl Try.underlying26 info27 rfl (by first | rfl | omega) (by omega))) (by decide) ?_; clear hS; intro aa hS
                  refine sB (BstoreR0 ((((none, 0), []) : Row)) hS hR rfl rfl (by rfl) info27 (by rfl) (by repeat (first | with_reducible exact Pk.here | with_reducible apply Pk.there)) (by rfl) (by intro _; rfl) (by first | omega | (simp only [List.length_set, List.length_append, List.length_nil]; omega)) (by first | exact Nat.le_of_ble_eq_true rfl | (simp only [List.length_singleton]; omega)) (Nat.le_of_ble_eq_true rfl) (by rfl) ?_); clear hR; intro ww hR
                  replace hR := hR.slsNil (T := 3) (sz := 1)
                  change Sep (sls none ([] : List Int).length 0 3 1 (([] : List Int).flatMap e1) :: _) _ at hR
                  replace hR := Sep.rowPut (TI := 3) (i := y0) (xs := []) (hR.pk (r := rowsH _ _) (by repeat (first | with_reducible exact Pk.here | with_reducible apply Pk.there))) rfl (by rw [List.length_set]; omega)
                  refine wpList_nil ?_
                  refine hK522 _ _ ?_
                  refine wp_seq_k ?_; intro K523 hK523
                  refine wp_region_lit ?_
                  refine sA hS hR (Yld.assign hS rfl) (by decide) ?_; clear hS; intro aa hS
                  refine wpList_nil ?_
                  refine hK523 _ _ ?_
                  refine wp_ret ?_
                  repeat (first | with_reducible refine thenR ?_ | with_reducible refine blockR ?_ | with_reducible refine scopeR ?_)
                  refine ret1 (fn := Try.f39) (e := .ret) (.inl rfl) Try.results39 hS hR ⟨_, (.tmp rfl), ?_⟩
                  have he : joinE n (x0 : Int) (y0 : Int) = 0 := if_neg (by omega)
                  refine ⟨by rw [he], ?_⟩
                  exact Sep.refI (TR := 70) (TS := 27) (TI := 3) (S := S) (b2 := b2) (n := n) (m := ys.length) ((hys.set (k := x0) (M := L x0 ++ L y0) (p := (r57, c57)) (xs := ([] ++ zs) ++ zf) hx (by rw [← hzs, ← hzf]; simp [cst])).set (k := y0) (M := []) (p := (none, 0)) (xs := []) hy rfl) (by rw [joinS, he, if_pos rfl, Int.toNat_natCast, Int.toNat_natCast, upd_comm (Ne.symm hxy)]) (by simp) (hR.sub (by repeat (first | with_reducible exact Ex.refl | (with_reducible apply Ex.take; · repeat (first | with_reducible exact Pk.here | with_reducible apply Pk.there)) | with_reducible apply Ex.drop)))
                ·
                  refine dop rfl (BA hS hR (Yld.load1 hS rfl Try.underlying27 rfl (Rd.rec0 (k := y0) (xs := ys) (v := .slice rf zf.length cf) (by repeat (first | with_reducible exact Pk.here | with_reducible apply Pk.there)) (by intro _; rfl) (by omega) (by rw [(List.getElem?_eq_some_iff.1 hrof).2]; rfl))) (by decide) ?_); clear hS; intro aa hS; refine ⟨hR0, ?_⟩
                  refine dOne (i := 13) (by kernel_rfl) ?_
                  refine dop rfl (BappendR (sz := 1) hS hR rfl rfl Try.underlying27 info3 rfl rfl (by rfl) (by repeat (first | with_reducible exact Pk.here | with_reducible apply Pk.there)) (XC.row (by repeat (first | with_reducible exact Pk.here | with_reducible apply Pk.there)) hrow) (by intro _; rfl) (by show (_ + _) * 8 ≤ _; first | omega | (simp only [List.length_set, List.length_append, List.length_nil]; omega)) (by first | omega | (simp only [List.length_set, List.length_append, List.length_nil]; omega)) (by first | rfl | (simp; done) | (simp; omega)) (by decide) ?_); clear hS hR hR0; intro aa ww r49 c49 hS hR
                  refine dnext (hR.sub (by repeat (first | with_reducible exact Ex.refl | (with_reducible apply Ex.take; · repeat (first | with_reducible exact Pk.here | with_reducible apply Pk.there)) | with_reducible apply Ex.drop))) ?_; intro hR0
                  refine dOne (i := 21) (by kernel_rfl) ?_
                  refine dop rfl (BappendR (sz := 1) hS hR rfl rfl Try.underlying27 info3 rfl rfl (by rfl) (by repeat (first | with_reducible exact Pk.here | with_reducible apply Pk.there)) (XC.row (by repeat (first | with_reducible exact Pk.here | with_reducible apply Pk.there)) hrof) (by intro _; rfl) (by show (_ + _) * 8 ≤ _; first | omega | (simp only [List.length_set, List.length_append, List.length_nil]; omega)) (by first | omega | (simp only [List.length_set, List.length_append, List.length_nil]; omega)) (by first | rfl | (simp; done) | (simp; omega)) (by decide) ?_); clear hS hR hR0; intro aa ww r57 c57 hS hR
                  refine dnext (hR.sub (by repeat (first | with_reducible exact Ex.refl | (with_reducible apply Ex.take; · repeat (first | with_reducible exact Pk.here | with_reducible apply Pk.there)) | with_reducible apply Ex.drop))) ?_; intro hR0
                  refine dA 22 rfl (by kernel_rfl) (by kernel_rfl) (by kernel_rfl) (fun _ _ _ h => h) hS hR0 ((by first | exact Yld.indexH (sz := 1) (x0) hS rfl rfl Try.underlying26 info27 (by assumption) rfl (by first | rfl | omega) (by omega) | exact Yld.indexL (sz := 1) (x0) hS rfl rfl Try.underlying26 info27 (by repeat (first | with_reducible exact Pk.here | with_reducible apply Pk.there)) rfl (by first | rfl | omega) (by omega) | exact Yld.indexB (sz := 1) (x0) hS rfl rfl Try.underlying26 info27 rfl (by first | rfl | omega) (by omega))) (by decide) ?_; clear hS; intro aa hS
                  refine dOne (i := 23) (by kernel_rfl) ?_
                  refine dop rfl (BstoreR0 (((r57, c57), ([] ++ zs) ++ zf)) hS hR rfl rfl (by rfl) info27 (by rfl) (by repeat (first | with_reducible exact Pk.here | with_reducible apply Pk.there)) (by rfl) (by intro _; rfl) (by first | omega | (simp only [List.length_set, List.length_append, List.length_nil]; omega)) (by first | exact Nat.le_of_ble_eq_true rfl | (simp only [List.length_singleton]; omega)) (Nat.le_of_ble_eq_true rfl) (by rfl) ?_); clear hR hR0; intro ww hR
                  refine dnext (hR.sub (by repeat (first | with_reducible exact Ex.refl | (with_reducible apply Ex.take; · repeat (first | with_reducible exact Pk.here | with_reducible apply Pk.there)) | with_reducible apply Ex.drop))) ?_; intro hR0
                  replace hR := Sep.rowPut (TI := 3) (i := x0) (xs := ([] ++ zs) ++ zf) ((hR.pk (r := sls r57 _ _ _ _ _) (by repeat (first | with_reducible exact Pk.here | with_reducible apply Pk.there))).pk (r := rowsH _ _) (by repeat (first | with_reducible exact Pk.here | with_reducible apply Pk.there))) (by simp) (by omega)
                  refine wpAnyH_done (by kernel_rfl) ?_ _; clear hR0
                  refine hK515 _ _ ?_
                  refine wp_seq_k ?_; intro K524 hK524
                  refine wp_region_lit ?_
                  refine sA hS hR (Yld.move hS rfl) (by decide) ?_; clear hS; intro aa hS
                  refine sA hS hR (Yld.nilCheck hS rfl) (by decide) ?_; clear hS; intro aa hS
                  refine sA hS hR (Yld.fieldAddr hS rfl 1 Try.underlying70 rfl rfl info26 (by decide)) (by decide) ?_; clear hS; intro aa hS
                  refine sA hS hR (Yld.load1 hS rfl Try.underlying26 rfl (by first | exact Rd.blk (by repeat (first | with_reducible exact Pk.here | with_reducible apply Pk.there)) (by rfl) | exact Rd.rec (by repeat (first | with_reducible exact Pk.here | with_reducible apply Pk.there)) (by intro _; rfl) (by first | omega | (simp only [List.length_set, List.length_append, List.length_nil]; omega)) rfl | exact Rd.rec0 (by repeat (first | with_reducible exact Pk.here | with_reducible apply Pk.there)) (by intro _; rfl) (by first | omega | (simp only [List.length_set, List.length_append, List.length_nil]; omega)) rfl | exact Rd.flatJ (by repeat (first | with_reducible exact Pk.here | with_reducible apply Pk.there)) (by intro _; rfl) (by first | omega | (simp only [List.length_set, List.length_append, List.length_nil]; omega)) rfl | exact Rd.flat0 (by repeat (first | with_reducible exact Pk.here | with_reducible apply Pk.there)) (by intro _; rfl) (by first | omega | (simp only [List.length_set, List.length_append, List.length_nil]; omega)) rfl)) (by decide) ?_; clear hS; intro aa hS
                  refine sA hS hR (Yld.move hS rfl) (by decide) ?_; clear hS; intro aa hS
                  refine sA hS hR ((by first | exact Yld.indexH (sz := 1) (y0) hS rfl rfl Try.underlying26 info27 (by assumption) rfl (by first | rfl | omega) (by omega) | exact Yld.indexL (sz := 1) (y0) hS rfl rfl Try.underlying26 info27 (by repeat (first | with_reducible exact Pk.here | with_reducible apply Pk.there)) rfl (by first | rfl | omega) (by omega) | exact Yld.indexB (sz := 1) (y0) hS rfl rfl Try.underlying26 info27 rfl (by first | rfl | omega) (by omega))) (by decide) ?_; clear hS; intro aa hS
                  refine sB (BstoreR0 ((((none, 0), []) : Row)) hS hR rfl rfl (by rfl) info27 (by rfl) (by repeat (first | with_reducible exact Pk.here | with_reducible apply Pk.there)) (by rfl) (by intro _; rfl) (by first | omega | (simp only [List.length_set, List.length_append, List.length_nil]; omega)) (by first | exact Nat.le_of_ble_eq_true rfl | (simp only [List.length_singleton]; omega)) (Nat.le_of_ble_eq_true rfl) (by rfl) ?_); clear hR; intro ww hR
                  replace hR := hR.slsNil (T := 3) (sz := 1)
                  change Sep (sls none ([] : List Int).length 0 3 1 (([] : List Int).flatMap e1) :: _) _ at hR
                  replace hR := Sep.rowPut (TI := 3) (i := y0) (xs := []) (hR.pk (r := rowsH _ _) (by repeat (first | with_reducible exact Pk.here | with_reducible apply Pk.there))) rfl (by rw [List.length_set]; omega)
                  refine wpList_nil ?_
                  refine hK524 _ _ ?_
                  refine wp_seq_k ?_; intro K525 hK525
                  refine wp_region_lit ?_
                  refine sA hS hR (Yld.assign hS rfl) (by decide) ?_; clear hS; intro aa hS
                  refine wpList_nil ?_
                  refine hK525 _ _ ?_
                  refine wp_ret ?_
                  repeat (first | with_reducible refine thenR ?_ | with_reducible refine blockR ?_ | with_reducible refine scopeR ?_)
                  refine ret1 (fn := Try.f39) (e := .ret) (.inl rfl) Try.results39 hS hR ⟨_, (.tmp rfl), ?_⟩
                  have he : joinE n (x0 : Int) (y0 : Int) = 0 := if_neg (by omega)
                  refine ⟨by rw [he], ?_⟩
                  exact Sep.refI (TR := 70) (TS := 27) (TI := 3) (S := S) (b2 := b2) (n := n) (m := ys.length) ((hys.set (k := x0) (M := L x0 ++ L y0) (p := (r57, c57)) (xs := ([] ++ zs) ++ zf) hx (by rw [← hzs, ← hzf]; simp [cst])).set (k := y0) (M := []) (p := (none, 0)) (xs := []) hy rfl) (by rw [joinS, he, if_pos rfl, Int.toNat_natCast, Int.toNat_natCast, upd_comm (Ne.symm hxy)]) (by simp) (hR.sub (by repeat (first | with_reducible exact Ex.refl | (with_reducible apply Ex.take; · repeat (first | with_reducible exact Pk.here | with_reducible apply Pk.there)) | with_reducible apply Ex.drop)))
              ·
                refine dop rfl (BA hS hR (Yld.load1 hS rfl Try.underlying27 rfl (Rd.rec0 (k := y0) (xs := ys) (v := .slice rf zf.length cf) (by repeat (first | with_reducible exact Pk.here | with_reducible apply Pk.there)) (by intro _; rfl) (by omega) (by rw [(List.getElem?_eq_some_iff.1 hrof).2]; rfl))) (by decide) ?_); clear hS; intro aa hS; refine ⟨hR0, ?_⟩
                refine dOne (i := 5) (by kernel_rfl) ?_
                refine dop rfl (BbuildSlice hS hR rfl (bls27_0_) (by decide) ?_); clear hS hR hR0; intro aa ww bb41 hS hR
                refine dnext (hR.sub (by repeat (first | with_reducible exact Ex.refl | (with_reducible apply Ex.take; · repeat (first | with_reducible exact Pk.here | with_reducible apply Pk.there)) | with_reducible apply Ex.drop))) ?_; intro hR0
                replace hR := hR.pk (r := blk bb41 _ _) (by repeat (first | with_reducible exact Pk.here | with_reducible apply Pk.there))
                replace hR := Sep.toRecs (m := 0) (sz := 1) (enc := e1) (([] : List Int)) hR rfl (by intro _; rfl) rfl
                refine dOne (i := 13) (by kernel_rfl) ?_
                refine dop rfl (BappendR (sz := 1) hS hR rfl rfl Try.underlying27 info3 rfl rfl (by rfl) (by repeat (first | with_reducible exact Pk.here | with_reducible apply Pk.there)) (XC.row (by repeat (first | with_reducible exact Pk.here | with_reducible apply Pk.there)) hrow) (by intro _; rfl) (by show (_ + _) * 8 ≤ _; first | omega | (simp only [List.length_set, List.length_append, List.length_nil]; omega)) (by first | omega | (simp only [List.length_set, List.length_append, List.length_nil]; omega)) (by first | rfl | (simp; done) | (simp; omega)) (by decide) ?_); clear hS hR hR0; intro aa ww r49 c49 hS hR
                refine dnext (hR.sub (by repeat (first | with_reducible exact Ex.refl | (with_reducible apply Ex.take; · repeat (first | with_reducible exact Pk.here | with_reducible apply Pk.there)) | with_reducible apply Ex.drop))) ?_; intro hR0
                refine dOne (i := 21) (by kernel_rfl) ?_
                refine dop rfl (BappendR (sz := 1) hS hR rfl rfl Try.underlying27 info3 rfl rfl (by rfl) (by repeat (first | with_reducible exact Pk.here | with_reducible apply Pk.there)) (XC.row (by repeat (first | with_reducible exact Pk.here | with_reducible apply Pk.there)) hrof) (by intro _; rfl) (by show (_ + _) * 8 ≤ _; first | omega | (simp only [List.length_set, List.length_append, List.length_nil]; omega)) (by first | omega | (simp only [List.length_set, List.length_append, List.length_nil]; omega)) (by first | rfl | (simp; done) | (simp; omega)) (by decide) ?_); clear hS hR hR0; intro aa ww r57 c57 hS hR
                refine dnext (hR.sub (by repeat (first | with_reducible exact Ex.refl | (with_reducible apply Ex.take; · repeat (first | with_reducible exact Pk.here | with_reducible apply Pk.there)) | with_reducible apply Ex.drop))) ?_; intro hR0
                refine dA 22 rfl (by kernel_rfl) (by kernel_rfl) (by kernel_rfl) (fun _ _ _ h => h) hS hR0 ((by first | exact Yld.indexH (sz := 1) (x0) hS rfl rfl Try.underlying26 info27 (by assumption) rfl (by first | rfl | omega) (by omega) | exact Yld.indexL (sz := 1) (x0) hS rfl rfl Try.underlying26 info27 (by repeat (first | with_reducible exact Pk.here | with_reducible apply Pk.there)) rfl (by first | rfl | omega) (by omega) | exact Yld.indexB (sz := 1) (x0) hS rfl rfl Try.underlying26 info27 rfl (by first | rfl | omega) (by omega))) (by decide) ?_; clear hS; intro aa hS
                refine dOne (i := 23) (by kernel_rfl) ?_
                refine dop rfl (BstoreR0 (((r57, c57), ([] ++ zs) ++ zf)) hS hR rfl rfl (by rfl) info27 (by rfl) (by repeat (first | with_reducible exact Pk.here | with_reducible apply Pk.there)) (by rfl) (by intro _; rfl) (by first | omega | (simp only [List.length_set, List.length_append, List.length_nil]; omega)) (by first | exact Nat.le_of_ble_eq_true rfl | (simp only [List.length_singleton]; omega)) (Nat.le_of_ble_eq_true rfl) (by rfl) ?_); clear hR hR0; intro ww hR
                refine dnext (hR.sub (by repeat (first | with_reducible exact Ex.refl | (with_reducible apply Ex.take; · repeat (first | with_reducible exact Pk.here | with_reducible apply Pk.there)) | with_reducible apply Ex.drop))) ?_; intro hR0
                replace hR := Sep.rowPut (TI := 3) (i := x0) (xs := ([] ++ zs) ++ zf) ((hR.pk (r := sls r57 _ _ _ _ _) (by repeat (first | with_reducible exact Pk.here | with_reducible apply Pk.there))).pk (r := rowsH _ _) (by repeat (first | with_reducible exact Pk.here | with_reducible apply Pk.there))) (by simp) (by omega)
                refine wpAnyH_done (by kernel_rfl) ?_ _; clear hR0
                refine hK515 _ _ ?_
                refine wp_seq_k ?_; intro K526 hK526
                refine wp_region_lit ?_
                refine sA hS hR (Yld.move hS rfl) (by decide) ?_; clear hS; intro aa hS
                refine sA hS hR (Yld.nilCheck hS rfl) (by decide) ?_; clear hS; intro aa hS
                refine sA hS hR (Yld.fieldAddr hS rfl 1 Try.underlying70 rfl rfl info26 (by decide)) (by decide) ?_; clear hS; intro aa hS
                refine sA hS hR (Yld.load1 hS rfl Try.underlying26 rfl (by first | exact Rd.blk (by repeat (first | with_reducible exact Pk.here | with_reducible apply Pk.there)) (by rfl) | exact Rd.rec (by repeat (first | with_reducible exact Pk.here | with_reducible apply Pk.there)) (by intro _; rfl) (by first | omega | (simp only [List.length_set, List.length_append, List.length_nil]; omega)) rfl | exact Rd.rec0 (by repeat (first | with_reducible exact Pk.here | with_reducible apply Pk.there)) (by intro _; rfl) (by first | omega | (simp only [List.length_set, List.length_append, List.length_nil]; omega)) rfl | exact Rd.flatJ (by repeat (first | with_reducible exact Pk.here | with_reducible apply Pk.there)) (by intro _; rfl) (by first | omega | (simp only [List.length_set, List.length_append, List.length_nil]; omega)) rfl | exact Rd.flat0 (by repeat (first | with_reducible exact Pk.here | with_reducible apply Pk.there)) (by intro _; rfl) (by first | omega | (simp only [List.length_set, List.length_append, List.length_nil]; omega)) rfl)) (by decide) ?_; clear hS; intro aa hS
                refine sA hS hR (Yld.move hS rfl) (by decide) ?_; clear hS; intro aa hS
                refine sA hS hR ((by first | exact Yld.indexH (sz := 1) (y0) hS rfl rfl Try.underlying26 info27 (by assumption) rfl (by first | rfl | omega) (by omega) | exact Yld.indexL (sz := 1) (y0) hS rfl rfl Try.underlying26 info27 (by repeat (first | with_reducible exact Pk.here | with_reducible apply Pk.there)) rfl (by first | rfl | omega) (by omega) | exact Yld.indexB (sz := 1) (y0) hS rfl rfl Try.underlying26 info27 rfl (by first | rfl | omega) (by omega))) (by decide) ?_; clear hS; intro aa hS
                refine sB (BstoreR0 ((((none, 0), []) : Row)) hS hR rfl rfl (by rfl) info27 (by rfl) (by repeat (first | with_reducible exact Pk.here | with_reducible apply Pk.there)) (by rfl) (by intro _; rfl) (by first | omega | (simp only [List.length_set, List.length_append, List.length_nil]; omega)) (by first | exact Nat.le_of_ble_eq_true rfl | (simp only [List.length_singleton]; omega)) (Nat.le_of_ble_eq_true rfl) (by rfl) ?_); clear hR; intro ww hR
                replace hR := hR.slsNil (T := 3) (sz := 1)
                change Sep (sls none ([] : List Int).length 0 3 1 (([] : List Int).flatMap e1) :: _) _ at hR
                replace hR := Sep.rowPut (TI := 3) (i := y0) (xs := []) (hR.pk (r := rowsH _ _) (by repeat (first | with_reducible exact Pk.here | with_reducible apply Pk.there))) rfl (by rw [List.length_set]; omega)
                refine wpList_nil ?_
                refine hK526 _ _ ?_
                refine wp_seq_k ?_; intro K527 hK527
                refine wp_region_lit ?_
                refine sA hS hR (Yld.assign hS rfl) (by decide) ?_; clear hS; intro aa hS
                refine wpList_nil ?_
                refine hK527 _ _ ?_
                refine wp_ret ?_
                repeat (first | with_reducible refine thenR ?_ | with_reducible refine blockR ?_ | with_reducible refine scopeR ?_)
                refine ret1 (fn := Try.f39) (e := .ret) (.inl rfl) Try.results39 hS hR ⟨_, (.tmp rfl), ?_⟩
                have he : joinE n (x0 : Int) (y0 : Int) = 0 := if_neg (by omega)
                refine ⟨by rw [he], ?_⟩
                exact Sep.refI (TR := 70) (TS := 27) (TI := 3) (S := S) (b2 := b2) (n := n) (m := ys.length) ((hys.set (k := x0) (M := L x0 ++ L y0) (p := (r57, c57)) (xs := ([] ++ zs) ++ zf) hx (by rw [← hzs, ← hzf]; simp [cst])).set (k := y0) (M := []) (p := (none, 0)) (xs := []) hy rfl) (by rw [joinS, he, if_pos rfl, Int.toNat_natCast, Int.toNat_natCast, upd_comm (Ne.symm hxy)]) (by simp) (hR.sub (by repeat (first | with_reducible exact Ex.refl | (with_reducible apply Ex.take; · repeat (first | with_reducible exact Pk.here | with_reducible apply Pk.there)) | with_reducible apply Ex.drop)))
            ·
              refine dop rfl (BA hS hR (Yld.load1 hS rfl Try.underlying27 rfl (Rd.rec0 (k := y0) (xs := ys) (v := .slice rf zf.length cf) (by repeat (first | with_reducible exact Pk.here | with_reducible apply Pk.there)) (by intro _; rfl) (by omega) (by rw [(List.getElem?_eq_some_iff.1 hrof).2]; rfl))) (by decide) ?_); clear hS; intro aa hS; refine ⟨hR0, ?_⟩
              refine dTwo (i := 5) (j := 12) (by kernel_rfl) ?_ ?_
              ·
                refine dop rfl (BbuildSlice hS hR rfl (bls27_0_) (by decide) ?_); clear hS hR hR0; intro aa ww bb41 hS hR
                refine dnext (hR.sub (by repeat (first | with_reducible exact Ex.refl | (with_reducible apply Ex.take; · repeat (first | with_reducible exact Pk.here | with_reducible apply Pk.there)) | with_reducible apply Ex.drop))) ?_; intro hR0
                replace hR := hR.pk (r := blk bb41 _ _) (by repeat (first | with_reducible exact Pk.here | with_reducible apply Pk.there))
                replace hR := Sep.toRecs (m := 0) (sz := 1) (enc := e1) (([] : List Int)) hR rfl (by intro _; rfl) rfl
                refine dOne (i := 12) (by kernel_rfl) ?_
                refine dop rfl (BA hS hR (Yld.load1 hS rfl Try.underlying27 rfl (Rd.rec0 (k := x0) (xs := ys) (v := .slice rr zs.length cr) (by repeat (first | with_reducible exact Pk.here | with_reducible apply Pk.there)) (by intro _; rfl) (by omega) (by rw [(List.getElem?_eq_some_iff.1 hrow).2]; rfl))) (by decide) ?_); clear hS; intro aa hS; refine ⟨hR0, ?_⟩
                refine dOne (i := 13) (by kernel_rfl) ?_
                refine dop rfl (BappendR (sz := 1) hS hR rfl rfl Try.underlying27 info3 rfl rfl (by rfl) (by repeat (first | with_reducible exact Pk.here | with_reducible apply Pk.there)) (XC.row (by repeat (first | with_reducible exact Pk.here | with_reducible apply Pk.there)) hrow) (by intro _; rfl) (by show (_ + _) * 8 ≤ _; first | omega | (simp only [List.length_set, List.length_append, List.length_nil]; omega)) (by first | omega | (simp only [List.length_set, List.length_append, List.length_nil]; omega)) (by first | rfl | (simp; done) | (simp; omega)) (by decide) ?_); clear hS hR hR0; intro aa ww r49 c49 hS hR
                refine dnext (hR.sub (by repeat (first | with_reducible exact Ex.refl | (with_reducible apply Ex.take; · repeat (first | with_reducible exact Pk.here | with_reducible apply Pk.there)) | with_reducible apply Ex.drop))) ?_; intro hR0
                refine dOne (i := 21) (by kernel_rfl) ?_
                refine dop rfl (BappendR (sz := 1) hS hR rfl rfl Try.underlying27 info3 rfl rfl (by rfl) (by repeat (first | with_reducible exact Pk.here | with_reducible apply Pk.there)) (XC.row (by repeat (first | with_reducible exact Pk.here | with_reducible apply Pk.there)) hrof) (by intro _; rfl) (by show (_ + _) * 8 ≤ _; first | omega | (simp only [List.length_set, List.length_append, List.length_nil]; omega)) (by first | omega | (simp only [List.length_set, List.length_append, List.length_nil]; omega)) (by first | rfl | (simp; done) | (simp; omega)) (by decide) ?_); clear hS hR hR0; intro aa ww r57 c57 hS hR
                refine dnext (hR.sub (by repeat (first | with_reducible exact Ex.refl | (with_reducible apply Ex.take; · repeat (first | with_reducible exact Pk.here | with_reducible apply Pk.there)) | with_reducible apply Ex.drop))) ?_; intro hR0
                refine dA 22 rfl (by kernel_rfl) (by kernel_rfl) (by kernel_rfl) (fun _ _ _ h => h) hS hR0 ((by first | exact Yld.indexH (sz := 1) (x0) hS rfl rfl Try.underlying26 info27 (by assumption) rfl (by first | rfl | omega) (by omega) | exact Yld.indexL (sz := 1) (x0) hS rfl rfl Try.underlying26 info27 (by repeat (first | with_reducible exact Pk.here | with_reducible apply Pk.there)) rfl (by first | rfl | omega) (by omega) | exact Yld.indexB (sz := 1) (x0) hS rfl rfl Try.underlying26 info27 rfl (by first | rfl | omega) (by omega))) (by decide) ?_; clear hS; intro aa hS
                refine dOne (i := 23) (by kernel_rfl) ?_
                refine dop rfl (BstoreR0 (((r57, c57), ([] ++ zs) ++ zf)) hS hR rfl rfl (by rfl) info27 (by rfl) (by repeat (first | with_reducible exact Pk.here | with_reducible apply Pk.there)) (by rfl) (by intro _; rfl) (by first | omega | (simp only [List.length_set, List.length_append, List.length_nil]; omega)) (by first | exact Nat.le_of_ble_eq_true rfl | (simp only [List.length_singleton]; omega)) (Nat.le_of_ble_eq_true rfl) (by rfl) ?_); clear hR hR0; intro ww hR
                refine dnext (hR.sub (by repeat (first | with_reducible exact Ex.refl | (with_reducible apply Ex.take; · repeat (first | with_reducible exact Pk.here | with_reducible apply Pk.there)) | with_reducible apply Ex.drop))) ?_; intro hR0
                replace hR := Sep.rowPut (TI := 3) (i := x0) (xs := ([] ++ zs) ++ zf) ((hR.pk (r := sls r57 _ _ _ _ _) (by repeat (first | with_reducible exact Pk.here | with_reducible apply Pk.there))).pk (r := rowsH _ _) (by repeat (first | with_reducible exact Pk.here | with_reducible apply Pk.there))) (by simp) (by omega)
                refine wpAnyH_done (by kernel_rfl) ?_ _; clear hR0
                refine hK515 _ _ ?_
                refine wp_seq_k ?_; intro K528 hK528
                refine wp_region_lit ?_
                refine sA hS hR (Yld.move hS rfl) (by decide) ?_; clear hS; intro aa hS
                refine sA hS hR (Yld.nilCheck hS rfl) (by decide) ?_; clear hS; intro aa hS
                refine sA hS hR (Yld.fieldAddr hS rfl 1 Try.underlying70 rfl rfl info26 (by decide)) (by decide) ?_; clear hS; intro aa hS
                refine sA hS hR (Yld.load1 hS rfl Try.underlying26 rfl (by first | exact Rd.blk (by repeat (first | with_reducible exact Pk.here | with_reducible apply Pk.there)) (by rfl) | exact Rd.rec (by repeat (first | with_reducible exact Pk.here | with_reducible apply Pk.there)) (by intro _; rfl) (by first | omega | (simp only [List.length_set, List.length_append, List.length_nil]; omega)) rfl | exact Rd.rec0 (by repeat (first | with_reducible exact Pk.here | with_reducible apply Pk.there)) (by intro _; rfl) (by first | omega | (simp only [List.length_set, List.length_append, List.length_nil]; omega)) rfl | exact Rd.flatJ (by repeat (first | with_reducible exact Pk.here | with_reducible apply Pk.there)) (by intro _; rfl) (by first | omega | (simp only [List.length_set, List.length_append, List.length_nil]; omega)) rfl | exact Rd.flat0 (by repeat (first | with_reducible exact Pk.here | with_reducible apply Pk.there)) (by intro _; rfl) (by first | omega | (simp only [List.length_set, List.length_append, List.length_nil]; omega)) rfl)) (by decide) ?_; clear hS; intro aa hS
                refine sA hS hR (Yld.move hS rfl) (by decide) ?_; clear hS; intro aa hS
                refine sA hS hR ((by first | exact Yld.indexH (sz := 1) (y0) hS rfl rfl Try.underlying26 info27 (by assumption) rfl (by first | rfl | omega) (by omega) | exact Yld.indexL (sz := 1) (y0) hS rfl rfl Try.underlying26 info27 (by repeat (first | with_reducible exact Pk.here | with_reducible apply Pk.there)) rfl (by first | rfl | omega) (by omega) | exact Yld.indexB (sz := 1) (y0) hS rfl rfl Try.underlying26 info27 rfl (by first | rfl | omega) (by omega))) (by decide) ?_; clear hS; intro aa hS
                refine sB (BstoreR0 ((((none, 0), []) : Row)) hS hR rfl rfl (by rfl) info27 (by rfl) (by repeat (first | with_reducible exact Pk.here | with_reducible apply Pk.there)) (by rfl) (by intro _; rfl) (by first | omega | (simp only [List.length_set, List.length_append, List.length_nil]; omega)) (by first | exact Nat.le_of_ble_eq_true rfl | (simp only [List.length_singleton]; omega)) (Nat.le_of_ble_eq_true rfl) (by rfl) ?_); clear hR; intro ww hR
                replace hR := hR.slsNil (T := 3) (sz := 1)
                change Sep (sls none ([] : List Int).length 0 3 1 (([] : List Int).flatMap e1) :: _) _ at hR
                replace hR := Sep.rowPut (TI := 3) (i := y0) (xs := []) (hR.pk (r := rowsH _ _) (by repeat (first | with_reducible exact Pk.here | with_reducible apply Pk.there))) rfl (by rw [List.length_set]; omega)
                refine wpList_nil ?_
                refine hK528 _ _ ?_
                refine wp_seq_k ?_; intro K529 hK529
                refine wp_region_lit ?_
                refine sA hS hR (Yld.assign hS rfl) (by decide) ?_; clear hS; intro aa hS
                refine wpList_nil ?_
                refine hK529 _ _ ?_
                refine wp_ret ?_
                repeat (first | with_reducible refine thenR ?_ | with_reducible refine blockR ?_ | with_reducible refine scopeR ?_)
                refine ret1 (fn := Try.f39) (e := .ret) (.inl rfl) Try.results39 hS hR ⟨_, (.tmp rfl), ?_⟩
                have he : joinE n (x0 : Int) (y0 : Int) = 0 := if_neg (by omega)
                refine ⟨by rw [he], ?_⟩
                exact Sep.refI (TR := 70) (TS := 27) (TI := 3) (S := S) (b2 := b2) (n := n) (m := ys.length) ((hys.set (k := x0) (M := L x0 ++ L y0) (p := (r57, c57)) (xs := ([] ++ zs) ++ zf) hx (by rw [← hzs, ← hzf]; simp [cst])).set (k := y0) (M := []) (p := (none, 0)) (xs := []) hy rfl) (by rw [joinS, he, if_pos rfl, Int.toNat_natCast, Int.toNat_natCast, upd_comm (Ne.symm hxy)]) (by simp) (hR.sub (by repeat (first | with_reducible exact Ex.refl | (with_reducible apply Ex.take; · repeat (first | with_reducible exact Pk.here | with_reducible apply Pk.there)) | with_reducible apply Ex.drop)))
              ·
                refine dop rfl (BA hS hR (Yld.load1 hS rfl Try.underlying27 rfl (Rd.rec0 (k := x0) (xs := ys) (v := .slice rr zs.length cr) (by repeat (first | with_reducible exact Pk.here | with_reducible apply Pk.there)) (by intro _; rfl) (by omega) (by rw [(List.getElem?_eq_some_iff.1 hrow).2]; rfl))) (by decide) ?_); clear hS; intro aa hS; refine ⟨hR0, ?_⟩
                refine dOne (i := 5) (by kernel_rfl) ?_
                refine dop rfl (BbuildSlice hS hR rfl (bls27_0_) (by decide) ?_); clear hS hR hR0; intro aa ww bb41 hS hR
                refine dnext (hR.sub (by repeat (first | with_reducible exact Ex.refl | (with_reducible apply Ex.take; · repeat (first | with_reducible exact Pk.here | with_reducible apply Pk.there)) | with_reducible apply Ex.drop))) ?_; intro hR0
                replace hR := hR.pk (r := blk bb41 _ _) (by repeat (first | with_reducible exact Pk.here | with_reducible apply Pk.there))
                replace hR := Sep.toRecs (m := 0) (sz := 1) (enc := e1) (([] : List Int)) hR rfl (by intro _; rfl) rfl
                refine dOne (i := 13) (by kernel_rfl) ?_
                refine dop rfl (BappendR (sz := 1) hS hR rfl rfl Try.underlying27 info3 rfl rfl (by rfl) (by repeat (first | with_reducible exact Pk.here | with_reducible apply Pk.there)) (XC.row (by repeat (first | with_reducible exact Pk.here | with_reducible apply Pk.there)) hrow) (by intro _; rfl) (by show (_ + _) * 8 ≤ _; first | omega | (simp only [List.length_set, List.length_append, List.length_nil]; omega)) (by first | omega | (simp only [List.length_set, List.length_append, List.length_nil]; omega)) (by first | rfl | (simp; done) | (simp; omega)) (by decide) ?_); clear hS hR hR0; intro aa ww r49 c49 hS hR
                refine dnext (hR.sub (by repeat (first | with_reducible exact Ex.refl | (with_reducible apply Ex.take; · repeat (first | with_reducible exact Pk.here | with_reducible apply Pk.there)) | with_reducible apply Ex.drop))) ?_; intro hR0
                refine dOne (i := 21) (by kernel_rfl) ?_
                refine dop rfl (BappendR (sz := 1) hS hR rfl rfl Try.underlying27 info3 rfl rfl (by rfl) (by repeat (first | with_reducible exact Pk.here | with_reducible apply Pk.there)) (XC.row (by repeat (first | with_reducible exact Pk.here | with_reducible apply Pk.there)) hrof) (by intro _; rfl) (by show (_ + _) * 8 ≤ _; first | omega | (simp only [List.length_set, List.length_append, List.length_nil]; omega)) (by first | omega | (simp only [List.length_set, List.length_append, List.length_nil]; omega)) (by first | rfl | (simp; done) | (simp; omega)) (by decide) ?_); clear hS hR hR0; intro aa ww r57 c57 hS hR
                refine dnext (hR.sub (by repeat (first | with_reducible exact Ex.refl | (with_reducible apply Ex.take; · repeat (first | with_reducible exact Pk.here | with_reducible apply Pk.there)) | with_reducible apply Ex.drop))) ?_; intro hR0
                refine dA 22 rfl (by kernel_rfl) (by kernel_rfl) (by kernel_rfl) (fun _ _ _ h => h) hS hR0 ((by first | exact Yld.indexH (sz := 1) (x0) hS rfl rfl Try.underlying26 info27 (by assumption) rfl (by first | rfl | omega) (by omega) | exact Yld.indexL (sz := 1) (x0) hS rfl rfl Try.underlying26 info27 (by repeat (first | with_reducible exact Pk.here | with_reducible apply Pk.there)) rfl (by first | rfl | omega) (by omega) | exact Yld.indexB (sz := 1) (x0) hS rfl rfl Try.underlying26 info27 rfl (by first | rfl | omega) (by omega))) (by decide) ?_; clear hS; intro aa hS
                refine dOne (i := 23) (by kernel_rfl) ?_
                refine dop rfl (BstoreR0 (((r57, c57), ([] ++ zs) ++ zf)) hS hR rfl rfl (by rfl) info27 (by rfl) (by repeat (first | with_reducible exact Pk.here | with_reducible apply Pk.there)) (by rfl) (by intro _; rfl) (by first | omega | (simp only [List.length_set, List.length_append, List.length_nil]; omega)) (by first | exact Nat.le_of_ble_eq_true rfl | (simp only [List.length_singleton]; omega)) (Nat.le_of_ble_eq_true rfl) (by rfl) ?_); clear hR hR0; intro ww hR
                refine dnext (hR.sub (by repeat (first | with_reducible exact Ex.refl | (with_reducible apply Ex.take; · repeat (first | with_reducible exact Pk.here | with_reducible apply Pk.there)) | with_reducible apply Ex.drop))) ?_; intro hR0
                replace hR := Sep.rowPut (TI := 3) (i := x0) (xs := ([] ++ zs) ++ zf) ((hR.pk (r := sls r57 _ _ _ _ _) (by repeat (first | with_reducible exact Pk.here | with_reducible apply Pk.there))).pk (r := rowsH _ _) (by repeat (first | with_reducible exact Pk.here | with_reducible apply Pk.there))) (by simp) (by omega)
                refine wpAnyH_done (by kernel_rfl) ?_ _; clear hR0
                refine hK515 _ _ ?_
                refine wp_seq_k ?_; intro K530 hK530
                refine wp_region_lit ?_
                refine sA hS hR (Yld.move hS rfl) (by decide) ?_; clear hS; intro aa hS
                refine sA hS hR (Yld.nilCheck hS rfl) (by decide) ?_; clear hS; intro aa hS
                refine sA hS hR (Yld.fieldAddr hS rfl 1 Try.underlying70 rfl rfl info26 (by decide)) (by decide) ?_; clear hS; intro aa hS
                refine sA hS hR (Yld.load1 hS rfl Try.underlying26 rfl (by first | exact Rd.blk (by repeat (first | with_reducible exact Pk.here | with_reducible apply Pk.there)) (by rfl) | exact Rd.rec (by repeat (first | with_reducible exact Pk.here | with_reducible apply Pk.there)) (by intro _; rfl) (by first | omega | (simp only [List.length_set, List.length_append, List.length_nil]; omega)) rfl | exact Rd.rec0 (by repeat (first | with_reducible exact Pk.here | with_reducible apply Pk.there)) (by intro _; rfl) (by first | omega | (simp only [List.length_set, List.length_append, List.length_nil]; omega)) rfl | exact Rd.flatJ (by repeat (first | with_reducible exact Pk.here | with_reducible apply Pk.there)) (by intro _; rfl) (by first | omega | (simp only [List.length_set, List.length_append, List.length_nil]; omega)) rfl | exact Rd.flat0 (by repeat (first | with_reducible exact Pk.here | with_reducible apply Pk.there)) (by intro _; rfl) (by first | omega | (simp only [List.length_set, List.length_append, List.length_nil]; omega)) rfl)) (by decide) ?_; clear hS; intro aa hS
                refine sA hS hR (Yld.move hS rfl) (by decide) ?_; clear hS; intro aa hS
                refine sA hS hR ((by first | exact Yld.indexH (sz := 1) (y0) hS rfl rfl Try.underlying26 info27 (by assumption) rfl (by first | rfl | omega) (by omega) | exact Yld.indexL (sz := 1) (y0) hS rfl rfl Try.underlying26 info27 (by repeat (first | with_reducible exact Pk.here | with_reducible apply Pk.there)) rfl (by first | rfl | omega) (by omega) | exact Yld.indexB (sz := 1) (y0) hS rfl rfl Try.underlying26 info27 rfl (by first | rfl | omega) (by omega))) (by decide) ?_; clear hS; intro aa hS
                refine sB (BstoreR0 ((((none, 0), []) : Row)) hS hR rfl rfl (by rfl) info27 (by rfl) (by repeat (first | with_reducible exact Pk.here | with_reducible apply Pk.there)) (by rfl) (by intro _; rfl) (by first | omega | (simp only [List.length_set, List.length_append, List.length_nil]; omega)) (by first | exact Nat.le_of_ble_eq_true rfl | (simp only [List.length_singleton]; omega)) (Nat.le_of_ble_eq_true rfl) (by rfl) ?_); clear hR; intro ww hR
                replace hR := hR.slsNil (T := 3) (sz := 1)
                change Sep (sls none ([] : List Int).length 0 3 1 (([] : List Int).flatMap e1) :: _) _ at hR
                replace hR := Sep.rowPut (TI := 3) (i := y0) (xs := []) (hR.pk (r := rowsH _ _) (by repeat (first | with_reducible exact Pk.here | with_reducible apply Pk.there))) rfl (by rw [List.length_set]; omega)
                refine wpList_nil ?_
                refine hK530 _ _ ?_
                refine wp_seq_k ?_; intro K531 hK531
                refine wp_region_lit ?_
                refine sA hS hR (Yld.assign hS rfl) (by decide) ?_; clear hS; intro aa hS
                refine wpList_nil ?_
                refine hK531 _ _ ?_
                refine wp_ret ?_
                repeat (first | with_reducible refine thenR ?_ | with_reducible refine blockR ?_ | with_reducible refine scopeR ?_)
                refine ret1 (fn := Try.f39) (e := .ret) (.inl rfl) Try.results39 hS hR ⟨_, (.tmp rfl), ?_⟩
                have he : joinE n (x0 : Int) (y0 : Int) = 0 := if_neg (by omega)
                refine ⟨by rw [he], ?_⟩
                exact Sep.refI (TR := 70) (TS := 27) (TI := 3) (S := S) (b2 := b2) (n := n) (m := ys.length) ((hys.set (k := x0) (M := L x0 ++ L y0) (p := (r57, c57)) (xs := ([] ++ zs) ++ zf) hx (by rw [← hzs, ← hzf]; simp [cst])).set (k := y0) (M := []) (p := (none, 0)) (xs := []) hy rfl) (by rw [joinS, he, if_pos rfl, Int.toNat_natCast, Int.toNat_natCast, upd_comm (Ne.symm hxy)]) (by simp) (hR.sub (by repeat (first | with_reducible exact Ex.refl | (with_reducible apply Ex.take; · repeat (first | with_reducible exact Pk.here | with_reducible apply Pk.there)) | with_reducible apply Ex.drop)))
end Go.Proofs.Ytcokognhodjfgaa.Sx
