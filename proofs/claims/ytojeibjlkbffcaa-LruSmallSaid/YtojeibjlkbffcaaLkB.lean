/-
  
-/
import Derived.Test.YtojeibjlkbffcaaLkA
namespace Go.Proofs.Ytojeibjlkbffcaa.Sx
open Go
set_option linter.unusedVariables false
set_option linter.unusedSimpArgs false



set_option maxRecDepth 20000 in
theorem LOf_ok {S n b : Nat} {L : Nat → List Nat} {l : List HP} {w : World} {x : Int} (hR : Sep (linksA 80 77 3 b S n L :: l) w) : CallR Try.prog 36 [.pointer (some ⟨b, 0, none⟩), .int .i64 x] w (fun v w' => v = optV (ofS S n L x) ∧ Sep (linksA 80 77 3 b S n L :: l) w') := by
  refine enter Try.func36 rfl Try.ntmps36 (Nat.le_of_ble_eq_true rfl) ?_; intro aa hS
  obtain ⟨P, R, rg, nm, sz, r1, c1, r2, c2, r3, c3, r4, c4, hW, hR⟩ := hR.linksAE
  have hs1 := hW.s1
  have hs2 := hW.s2
  have hn1 := hW.n1
  have hn2 := hW.n2
  obtain ⟨hb1, hb2, hb3, hb4⟩ := hR.linksBk hn1
  refine wp_seq_k ?_; intro K15 hK15
  refine wp_region_lit ?_
  refine sA hS hR (Yld.assign hS rfl) (by decide) ?_; clear hS; intro aa hS
  refine sA hS hR (Yld.assign hS rfl) (by decide) ?_; clear hS; intro aa hS
  refine wpList_nil ?_
  refine hK15 _ _ ?_
  refine wp_seq_k ?_; intro K16 hK16
  refine wp_seq_k ?_; intro K17 hK17
  refine wp_region_lit ?_
  refine sA hS hR (Yld.move hS rfl) (by decide) ?_; clear hS; intro aa hS
  refine sA hS hR (Yld.move hS rfl) (by decide) ?_; clear hS; intro aa hS
  refine sB (Bcall hS rfl Try.call46 (lslot_ok (hR.pk (r := blk b _ _) (by repeat (first | with_reducible exact Pk.here | with_reducible apply Pk.there))) (by omega)) (by decide) ?_); clear hS; intro aa ww vv hS hp
  clear hR
  obtain ⟨rfl, hR⟩ := hp
  refine sA hS hR (Yld.not hS rfl) (by decide) ?_; clear hS; intro aa hS
  refine sA hS hR (Yld.move hS rfl) (by decide) ?_; clear hS; intro aa hS
  refine hS.splitB (t := 10) rfl ?_ ?_ <;> clear hS
  · intro hg hS
    refine sSkip hS rfl rfl rfl (by decide) ?_; clear hS; intro aa hS
    refine sSkip hS rfl rfl rfl (by decide) ?_; clear hS; intro aa hS
    refine sSkip hS rfl rfl rfl (by decide) ?_; clear hS; intro aa hS
    refine sSkip hS rfl rfl rfl (by decide) ?_; clear hS; intro aa hS
    refine sSkip hS rfl rfl rfl (by decide) ?_; clear hS; intro aa hS
    refine sSkip hS rfl rfl rfl (by decide) ?_; clear hS; intro aa hS
    refine sSkip hS rfl rfl rfl (by decide) ?_; clear hS; intro aa hS
    refine sSkip hS rfl rfl rfl (by decide) ?_; clear hS; intro aa hS
    refine sSkip hS rfl rfl rfl (by decide) ?_; clear hS; intro aa hS
    refine sA hS hR (Yld.pickT hS rfl rfl) (by decide) ?_; clear hS; intro aa hS
    refine wpList_nil ?_
    refine hK17 _ _ ?_
    refine condT hS rfl ?_
    refine wp_seq_k ?_; intro K18 hK18
    refine wp_region_lit ?_
    refine sA hS hR (Yld.assign hS rfl) (by decide) ?_; clear hS; intro aa hS
    refine sA hS hR (Yld.assign hS rfl) (by decide) ?_; clear hS; intro aa hS
    refine wpList_nil ?_
    refine hK18 _ _ ?_
    refine wp_ret ?_
    repeat (first | with_reducible refine thenR ?_ | with_reducible refine blockR ?_ | with_reducible refine scopeR ?_)
    refine retN (fn := Try.f36) (e := .ret) (.inl rfl) Try.results36 hS hR ⟨_, .cons (.tmp rfl) (.cons (.tmp rfl) (.nil)), rfl, ?_⟩
    refine ⟨?_, Sep.linksAI (TL := 80) (TN := 77) (TI := 3) (b := b) hW rfl (hR.sub (by repeat (first | with_reducible exact Ex.refl | (with_reducible apply Ex.take; · repeat (first | with_reducible exact Pk.here | with_reducible apply Pk.there)) | with_reducible apply Ex.drop)))⟩
    first | (rw [ofS, if_neg (by omega)]; (try rfl); done) | (rw [ofS, if_pos (by omega), Int.toNat_natCast, hc2]; (try rfl); done)
  · intro hg hS
    obtain ⟨x, rfl⟩ : ∃ z9 : Nat, x = z9 := ⟨(x).toNat, by omega⟩
    refine sAg hS hR rfl rfl (Yld.move hS rfl) (by decide) ?_; clear hS; intro aa hS
    refine sAg hS hR rfl rfl (Yld.nilCheck hS rfl) (by decide) ?_; clear hS; intro aa hS
    refine sAg hS hR rfl rfl (Yld.fieldAddr hS rfl 0 Try.underlying80 rfl rfl info78 (by decide)) (by decide) ?_; clear hS; intro aa hS
    refine sAg hS hR rfl rfl (Yld.load1 hS rfl Try.underlying78 rfl (by first | exact Rd.blk (by repeat (first | with_reducible exact Pk.here | with_reducible apply Pk.there)) (by rfl) | exact Rd.rec (by repeat (first | with_reducible exact Pk.here | with_reducible apply Pk.there)) (by intro _; rfl) (by first | omega | (rw [nods_len]; omega) | (rw [tabN_len]; omega)) rfl | exact Rd.rec0 (by repeat (first | with_reducible exact Pk.here | with_reducible apply Pk.there)) (by intro _; rfl) (by first | omega | (rw [nods_len]; omega) | (rw [tabN_len]; omega)) rfl | exact Rd.flatJ (by repeat (first | with_reducible exact Pk.here | with_reducible apply Pk.there)) (by intro _; rfl) (by first | omega | (rw [nods_len]; omega) | (rw [tabN_len]; omega)) rfl | exact Rd.flat0 (by repeat (first | with_reducible exact Pk.here | with_reducible apply Pk.there)) (by intro _; rfl) (by first | omega | (rw [nods_len]; omega) | (rw [tabN_len]; omega)) rfl)) (by decide) ?_; clear hS; intro aa hS
    refine sAg hS hR rfl rfl (Yld.move hS rfl) (by decide) ?_; clear hS; intro aa hS
    refine sAg hS hR rfl rfl ((by first | exact Yld.indexH (sz := 3) (x) hS rfl rfl Try.underlying78 info77 (by assumption) rfl (by first | rfl | omega) (by omega) | exact Yld.indexL (sz := 3) (x) hS rfl rfl Try.underlying78 info77 (by repeat (first | with_reducible exact Pk.here | with_reducible apply Pk.there)) rfl (by first | rfl | omega) (by omega) | exact Yld.indexB (sz := 3) (x) hS rfl rfl Try.underlying78 info77 rfl (by first | rfl | omega) (by omega))) (by decide) ?_; clear hS; intro aa hS
    refine sAg hS hR rfl rfl (Yld.fieldAddr hS rfl 2 Try.underlying77 rfl rfl info3 (by decide)) (by decide) ?_; clear hS; intro aa hS
    refine sAg hS hR rfl rfl (Yld.load1 hS rfl Try.underlying3 rfl (Rd.rec (k := x) (j := 2) (v := .int .i64 (R x)) (xs := nods (S + n) P R) (by repeat (first | with_reducible exact Pk.here | with_reducible apply Pk.there)) (by intro _; rfl) (by rw [nods_len]; omega) (by rw [nods_get]; rfl))) (by decide) ?_; clear hS; intro aa hS
    refine sAg hS hR rfl rfl (Yld.lss hS rfl rfl) (by decide) ?_; clear hS; intro aa hS
    refine sA hS hR (Yld.pickF hS rfl rfl) (by decide) ?_; clear hS; intro aa hS
    refine wpList_nil ?_
    refine hK17 _ _ ?_
    refine hS.splitB (t := 20) rfl ?_ ?_ <;> clear hS
    · intro hg hS
      rcases hW.cases (x := x) (by omega) with ⟨hc1, hc2, hc3⟩ | ⟨i, hi, hx, hc1, hc2⟩; rotate_left; · exfalso; omega
      refine condT hS rfl ?_
      refine wp_seq_k ?_; intro K19 hK19
      refine wp_region_lit ?_
      refine sA hS hR (Yld.assign hS rfl) (by decide) ?_; clear hS; intro aa hS
      refine sA hS hR (Yld.assign hS rfl) (by decide) ?_; clear hS; intro aa hS
      refine wpList_nil ?_
      refine hK19 _ _ ?_
      refine wp_ret ?_
      repeat (first | with_reducible refine thenR ?_ | with_reducible refine blockR ?_ | with_reducible refine scopeR ?_)
      refine retN (fn := Try.f36) (e := .ret) (.inl rfl) Try.results36 hS hR ⟨_, .cons (.tmp rfl) (.cons (.tmp rfl) (.nil)), rfl, ?_⟩
      refine ⟨?_, Sep.linksAI (TL := 80) (TN := 77) (TI := 3) (b := b) hW rfl (hR.sub (by repeat (first | with_reducible exact Ex.refl | (with_reducible apply Ex.take; · repeat (first | with_reducible exact Pk.here | with_reducible apply Pk.there)) | with_reducible apply Ex.drop)))⟩
      first | (rw [ofS, if_neg (by omega)]; (try rfl); done) | (rw [ofS, if_pos (by omega), Int.toNat_natCast, hc2]; (try rfl); done)
    · intro hg hS
      rcases hW.cases (x := x) (by omega) with ⟨hc1, hc2, hc3⟩ | ⟨i, hi, hx, hc1, hc2⟩; · exfalso; omega
      have hri := hW.hrg i hi
      have hnm := hW.hnm i hi
      refine condF hS rfl ?_
      refine wp_skip ?_
      refine hK16 _ _ ?_
      refine wp_seq_k ?_; intro K20 hK20
      refine drawn (by kernel_rfl) hR Ex.refl ?_; clear hR; intro ww hR hR0
      refine dA 0 rfl (by kernel_rfl) (by kernel_rfl) (by kernel_rfl) (fun _ _ _ h => h) hS hR0 (Yld.move hS rfl) (by decide) ?_; clear hS; intro aa hS
      refine dA 1 rfl (by kernel_rfl) (by kernel_rfl) (by kernel_rfl) (fun _ _ _ h => h) hS hR0 (Yld.nilCheck hS rfl) (by decide) ?_; clear hS; intro aa hS
      refine dA 2 rfl (by kernel_rfl) (by kernel_rfl) (by kernel_rfl) (fun _ _ _ h => h) hS hR0 (Yld.fieldAddr hS rfl 3 Try.underlying80 rfl rfl info27 (by decide)) (by decide) ?_; clear hS; intro aa hS
      refine dA 3 rfl (by kernel_rfl) (by kernel_rfl) (by kernel_rfl) (fun _ _ _ h => h) hS hR0 (Yld.load1 hS rfl Try.underlying27 rfl (by first | exact Rd.blk (by repeat (first | with_reducible exact Pk.here | with_reducible apply Pk.there)) (by rfl) | exact Rd.rec (by repeat (first | with_reducible exact Pk.here | with_reducible apply Pk.there)) (by intro _; rfl) (by first | omega | (rw [nods_len]; omega) | (rw [tabN_len]; omega)) rfl | exact Rd.rec0 (by repeat (first | with_reducible exact Pk.here | with_reducible apply Pk.there)) (by intro _; rfl) (by first | omega | (rw [nods_len]; omega) | (rw [tabN_len]; omega)) rfl | exact Rd.flatJ (by repeat (first | with_reducible exact Pk.here | with_reducible apply Pk.there)) (by intro _; rfl) (by first | omega | (rw [nods_len]; omega) | (rw [tabN_len]; omega)) rfl | exact Rd.flat0 (by repeat (first | with_reducible exact Pk.here | with_reducible apply Pk.there)) (by intro _; rfl) (by first | omega | (rw [nods_len]; omega) | (rw [tabN_len]; omega)) rfl)) (by decide) ?_; clear hS; intro aa hS
      refine dA 4 rfl (by kernel_rfl) (by kernel_rfl) (by kernel_rfl) (fun _ _ _ h => h) hS hR0 (Yld.move hS rfl) (by decide) ?_; clear hS; intro aa hS
      refine dA 5 rfl (by kernel_rfl) (by kernel_rfl) (by kernel_rfl) (fun _ _ _ h => h) hS hR0 (Yld.nilCheck hS rfl) (by decide) ?_; clear hS; intro aa hS
      refine dA 6 rfl (by kernel_rfl) (by kernel_rfl) (by kernel_rfl) (fun _ _ _ h => h) hS hR0 (Yld.fieldAddr hS rfl 0 Try.underlying80 rfl rfl info78 (by decide)) (by decide) ?_; clear hS; intro aa hS
      refine dA 7 rfl (by kernel_rfl) (by kernel_rfl) (by kernel_rfl) (fun _ _ _ h => h) hS hR0 (Yld.load1 hS rfl Try.underlying78 rfl (by first | exact Rd.blk (by repeat (first | with_reducible exact Pk.here | with_reducible apply Pk.there)) (by rfl) | exact Rd.rec (by repeat (first | with_reducible exact Pk.here | with_reducible apply Pk.there)) (by intro _; rfl) (by first | omega | (rw [nods_len]; omega) | (rw [tabN_len]; omega)) rfl | exact Rd.rec0 (by repeat (first | with_reducible exact Pk.here | with_reducible apply Pk.there)) (by intro _; rfl) (by first | omega | (rw [nods_len]; omega) | (rw [tabN_len]; omega)) rfl | exact Rd.flatJ (by repeat (first | with_reducible exact Pk.here | with_reducible apply Pk.there)) (by intro _; rfl) (by first | omega | (rw [nods_len]; omega) | (rw [tabN_len]; omega)) rfl | exact Rd.flat0 (by repeat (first | with_reducible exact Pk.here | with_reducible apply Pk.there)) (by intro _; rfl) (by first | omega | (rw [nods_len]; omega) | (rw [tabN_len]; omega)) rfl)) (by decide) ?_; clear hS; intro aa hS
      refine dA 8 rfl (by kernel_rfl) (by kernel_rfl) (by kernel_rfl) (fun _ _ _ h => h) hS hR0 (Yld.move hS rfl) (by decide) ?_; clear hS; intro aa hS
      refine dA 9 rfl (by kernel_rfl) (by kernel_rfl) (by kernel_rfl) (fun _ _ _ h => h) hS hR0 ((by first | exact Yld.indexH (sz := 3) (x) hS rfl rfl Try.underlying78 info77 (by assumption) rfl (by first | rfl | omega) (by omega) | exact Yld.indexL (sz := 3) (x) hS rfl rfl Try.underlying78 info77 (by repeat (first | with_reducible exact Pk.here | with_reducible apply Pk.there)) rfl (by first | rfl | omega) (by omega) | exact Yld.indexB (sz := 3) (x) hS rfl rfl Try.underlying78 info77 rfl (by first | rfl | omega) (by omega))) (by decide) ?_; clear hS; intro aa hS
      refine dA 10 rfl (by kernel_rfl) (by kernel_rfl) (by kernel_rfl) (fun _ _ _ h => h) hS hR0 (Yld.fieldAddr hS rfl 2 Try.underlying77 rfl rfl info3 (by decide)) (by decide) ?_; clear hS; intro aa hS
      refine dA 11 rfl (by kernel_rfl) (by kernel_rfl) (by kernel_rfl) (fun _ _ _ h => h) hS hR0 (Yld.load1 hS rfl Try.underlying3 rfl (Rd.rec (k := x) (j := 2) (v := .int .i64 (R x)) (xs := nods (S + n) P R) (by repeat (first | with_reducible exact Pk.here | with_reducible apply Pk.there)) (by intro _; rfl) (by rw [nods_len]; omega) (by rw [nods_get]; rfl))) (by decide) ?_; clear hS; intro aa hS
      replace hS := hS.say (t := 32) (.int .i64 ((rg i : Nat) : Int)) rfl (by rw [hc1])
      refine dA 12 rfl (by kernel_rfl) (by kernel_rfl) (by kernel_rfl) (fun _ _ _ h => h) hS hR0 ((by first | exact Yld.indexH (sz := 1) (rg i) hS rfl rfl Try.underlying27 info3 (by assumption) rfl (by first | rfl | omega) (by omega) | exact Yld.indexL (sz := 1) (rg i) hS rfl rfl Try.underlying27 info3 (by repeat (first | with_reducible exact Pk.here | with_reducible apply Pk.there)) rfl (by first | rfl | omega) (by omega) | exact Yld.indexB (sz := 1) (rg i) hS rfl rfl Try.underlying27 info3 rfl (by first | rfl | omega) (by omega))) (by decide) ?_; clear hS; intro aa hS
      refine dA 13 rfl (by kernel_rfl) (by kernel_rfl) (by kernel_rfl) (fun _ _ _ h => h) hS hR0 (Yld.load1 hS rfl Try.underlying3 rfl (Rd.rec0 (k := (rg i)) (v := .int .i64 ((nm (rg i) : Nat) : Int)) (xs := tabN n nm) (by repeat (first | with_reducible exact Pk.here | with_reducible apply Pk.there)) (by intro _; rfl) (by rw [tabN_len]; omega) (by rw [tabN_get]; rfl))) (by decide) ?_; clear hS; intro aa hS
      rw [hnm] at hS
      refine dA 14 rfl (by kernel_rfl) (by kernel_rfl) (by kernel_rfl) (fun _ _ _ h => h) hS hR0 (Yld.assign hS rfl) (by decide) ?_; clear hS; intro aa hS
      refine dA 15 rfl (by kernel_rfl) (by kernel_rfl) (by kernel_rfl) (fun _ _ _ h => h) hS hR0 (Yld.assign hS rfl) (by decide) ?_; clear hS; intro aa hS
      refine wpAnyH_done (by kernel_rfl) ?_ _; clear hR0
      refine hK20 _ _ ?_
      refine wp_ret ?_
      repeat (first | with_reducible refine thenR ?_ | with_reducible refine blockR ?_ | with_reducible refine scopeR ?_)
      refine retN (fn := Try.f36) (e := .ret) (.inl rfl) Try.results36 hS hR ⟨_, .cons (.tmp rfl) (.cons (.tmp rfl) (.nil)), rfl, ?_⟩
      refine ⟨?_, Sep.linksAI (TL := 80) (TN := 77) (TI := 3) (b := b) hW rfl (hR.sub (by repeat (first | with_reducible exact Ex.refl | (with_reducible apply Ex.take; · repeat (first | with_reducible exact Pk.here | with_reducible apply Pk.there)) | with_reducible apply Ex.drop)))⟩
      first | (rw [ofS, if_neg (by omega)]; (try rfl); done) | (rw [ofS, if_pos (by omega), Int.toNat_natCast, hc2]; (try rfl); done)
set_option maxRecDepth 20000 in
theorem Lend_ok {S n b : Nat} {L : Nat → List Nat} {l : List HP} {w : World} {x : Int} {w9 : Nat} (hR : Sep (linksA 80 77 3 b S n L :: l) w) (hw : w9 < 2) : CallR Try.prog 44 [.pointer (some ⟨b, 0, none⟩), .int .i64 x, .int .i64 (w9 : Int)] w (fun v w' => v = optV (endS n L w9 x) ∧ Sep (linksA 80 77 3 b S n L :: l) w') := by
  refine enter Try.func44 rfl Try.ntmps44 (Nat.le_of_ble_eq_true rfl) ?_; intro aa hS
  obtain ⟨P, R, rg, nm, sz, r1, c1, r2, c2, r3, c3, r4, c4, hW, hR⟩ := hR.linksAE
  have hs1 := hW.s1
  have hs2 := hW.s2
  have hn1 := hW.n1
  have hn2 := hW.n2
  obtain ⟨hb1, hb2, hb3, hb4⟩ := hR.linksBk hn1
  refine wp_seq_k ?_; intro K21 hK21
  refine wp_region_lit ?_
  refine sA hS hR (Yld.assign hS rfl) (by decide) ?_; clear hS; intro aa hS
  refine sA hS hR (Yld.assign hS rfl) (by decide) ?_; clear hS; intro aa hS
  refine wpList_nil ?_
  refine hK21 _ _ ?_
  refine wp_seq_k ?_; intro K22 hK22
  refine wp_seq_k ?_; intro K23 hK23
  refine wp_region_lit ?_
  refine sA hS hR (Yld.move hS rfl) (by decide) ?_; clear hS; intro aa hS
  refine sA hS hR (Yld.move hS rfl) (by decide) ?_; clear hS; intro aa hS
  refine sB (Bcall hS rfl Try.call47 (llist_ok (hR.pk (r := blk b _ _) (by repeat (first | with_reducible exact Pk.here | with_reducible apply Pk.there))) (by omega)) (by decide) ?_); clear hS; intro aa ww vv hS hp
  clear hR
  obtain ⟨rfl, hR⟩ := hp
  refine sA hS hR (Yld.not hS rfl) (by decide) ?_; clear hS; intro aa hS
  refine wpList_nil ?_
  refine hK23 _ _ ?_
  refine hS.splitB (t := 11) rfl ?_ ?_ <;> clear hS
  · intro hg hS
    refine condT hS rfl ?_
    refine wp_seq_k ?_; intro K24 hK24
    refine wp_region_lit ?_
    refine sA hS hR (Yld.assign hS rfl) (by decide) ?_; clear hS; intro aa hS
    refine sA hS hR (Yld.assign hS rfl) (by decide) ?_; clear hS; intro aa hS
    refine wpList_nil ?_
    refine hK24 _ _ ?_
    refine wp_ret ?_
    repeat (first | with_reducible refine thenR ?_ | with_reducible refine blockR ?_ | with_reducible refine scopeR ?_)
    refine retN (fn := Try.f44) (e := .ret) (.inl rfl) Try.results44 hS hR ⟨_, .cons (.tmp rfl) (.cons (.tmp rfl) (.nil)), rfl, ?_⟩
    exact ⟨by rw [endS, if_neg (by omega)]; (try rfl); done, Sep.linksAI (TL := 80) (TN := 77) (TI := 3) (b := b) hW rfl (hR.sub (by repeat (first | with_reducible exact Ex.refl | (with_reducible apply Ex.take; · repeat (first | with_reducible exact Pk.here | with_reducible apply Pk.there)) | with_reducible apply Ex.drop)))⟩
  · intro hg hS
    obtain ⟨x, rfl⟩ : ∃ z9 : Nat, x = z9 := ⟨(x).toNat, by omega⟩
    have hxn : x < n := by omega
    have hri := hW.hrg x hxn
    refine condF hS rfl ?_
    refine wp_skip ?_
    refine hK22 _ _ ?_
    refine wp_seq_k ?_; intro K25 hK25
    refine drawn (by kernel_rfl) hR Ex.refl ?_; clear hR; intro ww hR hR0
    refine dA 0 rfl (by kernel_rfl) (by kernel_rfl) (by kernel_rfl) (fun _ _ _ h => h) hS hR0 (Yld.move hS rfl) (by decide) ?_; clear hS; intro aa hS
    refine dA 1 rfl (by kernel_rfl) (by kernel_rfl) (by kernel_rfl) (fun _ _ _ h => h) hS hR0 (Yld.move hS rfl) (by decide) ?_; clear hS; intro aa hS
    refine dA 2 rfl (by kernel_rfl) (by kernel_rfl) (by kernel_rfl) (fun _ _ _ h => h) hS hR0 (Yld.nilCheck hS rfl) (by decide) ?_; clear hS; intro aa hS
    refine dA 3 rfl (by kernel_rfl) (by kernel_rfl) (by kernel_rfl) (fun _ _ _ h => h) hS hR0 (Yld.fieldAddr hS rfl 1 Try.underlying80 rfl rfl info3 (by decide)) (by decide) ?_; clear hS; intro aa hS
    refine dA 4 rfl (by kernel_rfl) (by kernel_rfl) (by kernel_rfl) (fun _ _ _ h => h) hS hR0 (Yld.load1 hS rfl Try.underlying3 rfl (by first | exact Rd.blk (by repeat (first | with_reducible exact Pk.here | with_reducible apply Pk.there)) (by rfl) | exact Rd.rec (by repeat (first | with_reducible exact Pk.here | with_reducible apply Pk.there)) (by intro _; rfl) (by first | omega | (rw [nods_len]; omega) | (rw [tabN_len]; omega)) rfl | exact Rd.rec0 (by repeat (first | with_reducible exact Pk.here | with_reducible apply Pk.there)) (by intro _; rfl) (by first | omega | (rw [nods_len]; omega) | (rw [tabN_len]; omega)) rfl | exact Rd.flatJ (by repeat (first | with_reducible exact Pk.here | with_reducible apply Pk.there)) (by intro _; rfl) (by first | omega | (rw [nods_len]; omega) | (rw [tabN_len]; omega)) rfl | exact Rd.flat0 (by repeat (first | with_reducible exact Pk.here | with_reducible apply Pk.there)) (by intro _; rfl) (by first | omega | (rw [nods_len]; omega) | (rw [tabN_len]; omega)) rfl)) (by decide) ?_; clear hS; intro aa hS
    refine dA 5 rfl (by kernel_rfl) (by kernel_rfl) (by kernel_rfl) (fun _ _ _ h => h) hS hR0 (Yld.move hS rfl) (by decide) ?_; clear hS; intro aa hS
    refine dA 6 rfl (by kernel_rfl) (by kernel_rfl) (by kernel_rfl) (fun _ _ _ h => h) hS hR0 (Yld.nilCheck hS rfl) (by decide) ?_; clear hS; intro aa hS
    refine dA 7 rfl (by kernel_rfl) (by kernel_rfl) (by kernel_rfl) (fun _ _ _ h => h) hS hR0 (Yld.fieldAddr hS rfl 2 Try.underlying80 rfl rfl info27 (by decide)) (by decide) ?_; clear hS; intro aa hS
    refine dA 8 rfl (by kernel_rfl) (by kernel_rfl) (by kernel_rfl) (fun _ _ _ h => h) hS hR0 (Yld.load1 hS rfl Try.underlying27 rfl (by first | exact Rd.blk (by repeat (first | with_reducible exact Pk.here | with_reducible apply Pk.there)) (by rfl) | exact Rd.rec (by repeat (first | with_reducible exact Pk.here | with_reducible apply Pk.there)) (by intro _; rfl) (by first | omega | (rw [nods_len]; omega) | (rw [tabN_len]; omega)) rfl | exact Rd.rec0 (by repeat (first | with_reducible exact Pk.here | with_reducible apply Pk.there)) (by intro _; rfl) (by first | omega | (rw [nods_len]; omega) | (rw [tabN_len]; omega)) rfl | exact Rd.flatJ (by repeat (first | with_reducible exact Pk.here | with_reducible apply Pk.there)) (by intro _; rfl) (by first | omega | (rw [nods_len]; omega) | (rw [tabN_len]; omega)) rfl | exact Rd.flat0 (by repeat (first | with_reducible exact Pk.here | with_reducible apply Pk.there)) (by intro _; rfl) (by first | omega | (rw [nods_len]; omega) | (rw [tabN_len]; omega)) rfl)) (by decide) ?_; clear hS; intro aa hS
    refine dA 9 rfl (by kernel_rfl) (by kernel_rfl) (by kernel_rfl) (fun _ _ _ h => h) hS hR0 (Yld.move hS rfl) (by decide) ?_; clear hS; intro aa hS
    refine dA 10 rfl (by kernel_rfl) (by kernel_rfl) (by kernel_rfl) (fun _ _ _ h => h) hS hR0 ((by first | exact Yld.indexH (sz := 1) (x) hS rfl rfl Try.underlying27 info3 (by assumption) rfl (by first | rfl | omega) (by omega) | exact Yld.indexL (sz := 1) (x) hS rfl rfl Try.underlying27 info3 (by repeat (first | with_reducible exact Pk.here | with_reducible apply Pk.there)) rfl (by first | rfl | omega) (by omega) | exact Yld.indexB (sz := 1) (x) hS rfl rfl Try.underlying27 info3 rfl (by first | rfl | omega) (by omega))) (by decide) ?_; clear hS; intro aa hS
    refine dA 11 rfl (by kernel_rfl) (by kernel_rfl) (by kernel_rfl) (fun _ _ _ h => h) hS hR0 (Yld.load1 hS rfl Try.underlying3 rfl (Rd.rec0 (k := x) (v := .int .i64 ((rg x : Nat) : Int)) (xs := tabN n rg) (by repeat (first | with_reducible exact Pk.here | with_reducible apply Pk.there)) (by intro _; rfl) (by rw [tabN_len]; omega) (by rw [tabN_get]; rfl))) (by decide) ?_; clear hS; intro aa hS
    refine dA 12 rfl (by kernel_rfl) (by kernel_rfl) (by kernel_rfl) (fun _ _ _ h => h) hS hR0 ((by first | exact Yld.add64 hS rfl rfl (by omega) | exact Yld.add hS rfl rfl)) (by decide) ?_; clear hS; intro aa hS
    replace hS := hS.say (t := 24) (.int .i64 ((S + rg x : Nat) : Int)) rfl (by rw [Int.natCast_add])
    refine dA 13 rfl (by kernel_rfl) (by kernel_rfl) (by kernel_rfl) (fun _ _ _ h => h) hS hR0 (Yld.move hS rfl) (by decide) ?_; clear hS; intro aa hS
    refine dOne (i := 14) (by kernel_rfl) ?_
    refine dop rfl (Bcall hS rfl Try.call51 (lbeside_ok ((hR.pk (r := sls r1 _ _ _ _ _) (by repeat (first | with_reducible exact Pk.here | with_reducible apply Pk.there))).pk (r := blk b _ _) (by repeat (first | with_reducible exact Pk.here | with_reducible apply Pk.there))) hb1 (by omega) hw) (by decide) ?_); clear hS; intro aa ww vv hS hp
    clear hR hR0
    obtain ⟨rfl, hR⟩ := hp
    refine dnext (hR.sub (by repeat (first | with_reducible exact Ex.refl | (with_reducible apply Ex.take; · repeat (first | with_reducible exact Pk.here | with_reducible apply Pk.there)) | with_reducible apply Ex.drop))) ?_; intro hR0
    refine dA 15 rfl (by kernel_rfl) (by kernel_rfl) (by kernel_rfl) (fun _ _ _ h => h) hS hR0 (Yld.extract hS rfl rfl) (by decide) ?_; clear hS; intro aa hS
    refine dA 16 rfl (by kernel_rfl) (by kernel_rfl) (by kernel_rfl) (fun _ _ _ h => h) hS hR0 (Yld.extract hS rfl rfl) (by decide) ?_; clear hS; intro aa hS
    refine dA 17 rfl (by kernel_rfl) (by kernel_rfl) (by kernel_rfl) (fun _ _ _ h => h) hS hR0 (Yld.assign hS rfl) (by decide) ?_; clear hS; intro aa hS
    refine dA 18 rfl (by kernel_rfl) (by kernel_rfl) (by kernel_rfl) (fun _ _ _ h => h) hS hR0 (Yld.assign hS rfl) (by decide) ?_; clear hS; intro aa hS
    refine wpAnyH_done (by kernel_rfl) ?_ _; clear hR0
    refine hK25 _ _ ?_
    refine wp_ret ?_
    repeat (first | with_reducible refine thenR ?_ | with_reducible refine blockR ?_ | with_reducible refine scopeR ?_)
    refine retN (fn := Try.f44) (e := .ret) (.inl rfl) Try.results44 hS hR ⟨_, .cons (.tmp rfl) (.cons (.tmp rfl) (.nil)), rfl, ?_⟩
    refine ⟨?_, Sep.linksAI (TL := 80) (TN := 77) (TI := 3) (b := b) hW rfl (hR.sub (by repeat (first | with_reducible exact Ex.refl | (with_reducible apply Ex.take; · repeat (first | with_reducible exact Pk.here | with_reducible apply Pk.there)) | with_reducible apply Ex.drop)))⟩
    rw [endS, if_pos (show 0 ≤ (x : Int) ∧ (x : Int) < n by omega), Int.toNat_natCast]
    rcases hW.firstE hw hxn with ⟨h1, h2⟩ | ⟨y, h1, h2, h3⟩
    · rw [h1, if_neg h2]; (try rfl); done
    · rw [h1, h2, if_pos h3]; (try rfl); done
set_option maxRecDepth 20000 in
theorem Lstep_ok {S n b : Nat} {L : Nat → List Nat} {l : List HP} {w : World} {x : Int} {w9 : Nat} (hR : Sep (linksA 80 77 3 b S n L :: l) w) (hw : w9 < 2) : CallR Try.prog 53 [.pointer (some ⟨b, 0, none⟩), .int .i64 x, .int .i64 (w9 : Int)] w (fun v w' => v = optV (stepS S n L w9 x) ∧ Sep (linksA 80 77 3 b S n L :: l) w') := by
  refine enter Try.func53 rfl Try.ntmps53 (Nat.le_of_ble_eq_true rfl) ?_; intro aa hS
  refine wp_seq_k ?_; intro K26 hK26
  refine wp_region_lit ?_
  refine sA hS hR (Yld.assign hS rfl) (by decide) ?_; clear hS; intro aa hS
  refine sA hS hR (Yld.assign hS rfl) (by decide) ?_; clear hS; intro aa hS
  refine wpList_nil ?_
  refine hK26 _ _ ?_
  refine wp_seq_k ?_; intro K27 hK27
  refine wp_seq_k ?_; intro K28 hK28
  refine wp_region_lit ?_
  refine sA hS hR (Yld.move hS rfl) (by decide) ?_; clear hS; intro aa hS
  refine sA hS hR (Yld.move hS rfl) (by decide) ?_; clear hS; intro aa hS
  refine sB (Bcall hS rfl Try.call36 (LOf_ok (hR.pk (r := linksA _ _ _ _ _ _ _) (by repeat (first | with_reducible exact Pk.here | with_reducible apply Pk.there)))) (by decide) ?_); clear hS; intro aa ww vv hS hp
  clear hR
  obtain ⟨rfl, hR⟩ := hp
  refine sA hS hR (Yld.move hS rfl) (by decide) ?_; clear hS; intro aa hS
  refine sA hS hR (Yld.extract hS rfl rfl) (by decide) ?_; clear hS; intro aa hS
  refine sA hS hR (Yld.extract hS rfl rfl) (by decide) ?_; clear hS; intro aa hS
  refine sA hS hR (Yld.assign hS rfl) (by decide) ?_; clear hS; intro aa hS
  refine sA hS hR (Yld.assign hS rfl) (by decide) ?_; clear hS; intro aa hS
  refine wpList_nil ?_
  refine hK28 _ _ ?_
  refine wp_seq_k ?_; intro K29 hK29
  refine wp_region_lit ?_
  refine sA hS hR (Yld.move hS rfl) (by decide) ?_; clear hS; intro aa hS
  refine sA hS hR (Yld.not hS rfl) (by decide) ?_; clear hS; intro aa hS
  refine wpList_nil ?_
  refine hK29 _ _ ?_
  refine hS.splitB (t := 17) rfl ?_ ?_ <;> clear hS
  · intro hg hS
    have hno : ofS S n L x = none := by cases e : ofS S n L x with
      | none => rfl
      | some y => rw [e] at hg; simp at hg
    refine condT hS rfl ?_
    refine wp_seq_k ?_; intro K30 hK30
    refine wp_region_lit ?_
    refine sA hS hR (Yld.assign hS rfl) (by decide) ?_; clear hS; intro aa hS
    refine sA hS hR (Yld.assign hS rfl) (by decide) ?_; clear hS; intro aa hS
    refine wpList_nil ?_
    refine hK30 _ _ ?_
    refine wp_ret ?_
    repeat (first | with_reducible refine thenR ?_ | with_reducible refine blockR ?_ | with_reducible refine scopeR ?_)
    refine retN (fn := Try.f53) (e := .ret) (.inl rfl) Try.results53 hS hR ⟨_, .cons (.tmp rfl) (.cons (.tmp rfl) (.nil)), rfl, ?_⟩
    exact ⟨by rw [stepS, hno]; (try rfl); done, (hR.sub (by repeat (first | with_reducible exact Ex.refl | (with_reducible apply Ex.take; · repeat (first | with_reducible exact Pk.here | with_reducible apply Pk.there)) | with_reducible apply Ex.drop)))⟩
  · intro hg hS
    obtain ⟨i, hi0⟩ := Option.isSome_iff_exists.1 hg
    have hx0 : 0 ≤ x ∧ x < S := by
      by_cases h : 0 ≤ x ∧ x < S
      · exact h
      · rw [ofS, if_neg h] at hi0; cases hi0
    obtain ⟨x, rfl⟩ : ∃ z9 : Nat, x = z9 := ⟨(x).toNat, by omega⟩
    have hi1 := hi0
    rw [ofS, if_pos hx0, Int.toNat_natCast] at hi1
    have hi := (ofL_mem hi1).1
    have hx := (ofL_mem hi1).2
    obtain ⟨P, R, rg, nm, sz, r1, c1, r2, c2, r3, c3, r4, c4, hW, hR⟩ := hR.linksAE
    have hs1 := hW.s1
    have hs2 := hW.s2
    have hn1 := hW.n1
    have hn2 := hW.n2
    obtain ⟨hb1, hb2, hb3, hb4⟩ := hR.linksBk hn1
    refine condF hS rfl ?_
    refine wp_skip ?_
    refine hK27 _ _ ?_
    refine wp_seq_k ?_; intro K31 hK31
    refine wp_region_lit ?_
    refine sA hS hR (Yld.move hS rfl) (by decide) ?_; clear hS; intro aa hS
    refine sA hS hR (Yld.move hS rfl) (by decide) ?_; clear hS; intro aa hS
    refine sA hS hR (Yld.move hS rfl) (by decide) ?_; clear hS; intro aa hS
    refine sB (Bcall hS rfl Try.call51 (lbeside_ok ((hR.pk (r := sls r1 _ _ _ _ _) (by repeat (first | with_reducible exact Pk.here | with_reducible apply Pk.there))).pk (r := blk b _ _) (by repeat (first | with_reducible exact Pk.here | with_reducible apply Pk.there))) hb1 (by omega) hw) (by decide) ?_); clear hS; intro aa ww vv hS hp
    clear hR
    obtain ⟨rfl, hR⟩ := hp
    refine sA hS hR (Yld.extract hS rfl rfl) (by decide) ?_; clear hS; intro aa hS
    refine sA hS hR (Yld.extract hS rfl rfl) (by decide) ?_; clear hS; intro aa hS
    refine sA hS hR (Yld.assign hS rfl) (by decide) ?_; clear hS; intro aa hS
    refine sA hS hR (Yld.assign hS rfl) (by decide) ?_; clear hS; intro aa hS
    refine wpList_nil ?_
    refine hK31 _ _ ?_
    refine wp_ret ?_
    repeat (first | with_reducible refine thenR ?_ | with_reducible refine blockR ?_ | with_reducible refine scopeR ?_)
    refine retN (fn := Try.f53) (e := .ret) (.inl rfl) Try.results53 hS hR ⟨_, .cons (.tmp rfl) (.cons (.tmp rfl) (.nil)), rfl, ?_⟩
    refine ⟨?_, Sep.linksAI (TL := 80) (TN := 77) (TI := 3) (b := b) hW rfl (hR.sub (by repeat (first | with_reducible exact Ex.refl | (with_reducible apply Ex.take; · repeat (first | with_reducible exact Pk.here | with_reducible apply Pk.there)) | with_reducible apply Ex.drop)))⟩
    rw [stepS, hi0]
    dsimp only
    rw [Int.toNat_natCast]
    rcases hW.nextE hw hi hx with ⟨h1, h2⟩ | ⟨y, h1, h2, h3⟩
    · rw [h1, if_neg h2]; (try rfl); done
    · rw [h1, h2, if_pos h3]; (try rfl); done
set_option maxRecDepth 20000 in
theorem LFirst_ok {S n b : Nat} {L : Nat → List Nat} {l : List HP} {w : World} {x : Int} (hR : Sep (linksA 80 77 3 b S n L :: l) w) : CallR Try.prog 30 [.pointer (some ⟨b, 0, none⟩), .int .i64 x] w (fun v w' => v = optV (endS n L 0 x) ∧ Sep (linksA 80 77 3 b S n L :: l) w') := by
  refine enter Try.func30 rfl Try.ntmps30 (Nat.le_of_ble_eq_true rfl) ?_; intro aa hS
  refine wp_seq_k ?_; intro K32 hK32
  refine wp_region_lit ?_
  refine sA hS hR (Yld.assign hS rfl) (by decide) ?_; clear hS; intro aa hS
  refine sA hS hR (Yld.assign hS rfl) (by decide) ?_; clear hS; intro aa hS
  refine wpList_nil ?_
  refine hK32 _ _ ?_
  refine wp_seq_k ?_; intro K33 hK33
  refine wp_region_lit ?_
  refine sA hS hR (Yld.move hS rfl) (by decide) ?_; clear hS; intro aa hS
  refine sA hS hR (Yld.move hS rfl) (by decide) ?_; clear hS; intro aa hS
  refine sB (Bcall hS rfl Try.call44 (Lend_ok (w9 := 0) (hR.pk (r := linksA _ _ _ _ _ _ _) (by repeat (first | with_reducible exact Pk.here | with_reducible apply Pk.there))) (by omega)) (by decide) ?_); clear hS; intro aa ww vv hS hp
  clear hR
  obtain ⟨rfl, hR⟩ := hp
  refine sA hS hR (Yld.extract hS rfl rfl) (by decide) ?_; clear hS; intro aa hS
  refine sA hS hR (Yld.extract hS rfl rfl) (by decide) ?_; clear hS; intro aa hS
  refine sA hS hR (Yld.assign hS rfl) (by decide) ?_; clear hS; intro aa hS
  refine sA hS hR (Yld.assign hS rfl) (by decide) ?_; clear hS; intro aa hS
  refine wpList_nil ?_
  refine hK33 _ _ ?_
  refine wp_ret ?_
  repeat (first | with_reducible refine thenR ?_ | with_reducible refine blockR ?_ | with_reducible refine scopeR ?_)
  refine retN (fn := Try.f30) (e := .ret) (.inl rfl) Try.results30 hS hR ⟨_, .cons (.tmp rfl) (.cons (.tmp rfl) (.nil)), rfl, ?_⟩
  exact ⟨rfl, (hR.sub (by repeat (first | with_reducible exact Ex.refl | (with_reducible apply Ex.take; · repeat (first | with_reducible exact Pk.here | with_reducible apply Pk.there)) | with_reducible apply Ex.drop)))⟩
set_option maxRecDepth 20000 in
theorem LLast_ok {S n b : Nat} {L : Nat → List Nat} {l : List HP} {w : World} {x : Int} (hR : Sep (linksA 80 77 3 b S n L :: l) w) : CallR Try.prog 42 [.pointer (some ⟨b, 0, none⟩), .int .i64 x] w (fun v w' => v = optV (endS n L 1 x) ∧ Sep (linksA 80 77 3 b S n L :: l) w') := by
  refine enter Try.func42 rfl Try.ntmps42 (Nat.le_of_ble_eq_true rfl) ?_; intro aa hS
  refine wp_seq_k ?_; intro K34 hK34
  refine wp_region_lit ?_
  refine sA hS hR (Yld.assign hS rfl) (by decide) ?_; clear hS; intro aa hS
  refine sA hS hR (Yld.assign hS rfl) (by decide) ?_; clear hS; intro aa hS
  refine wpList_nil ?_
  refine hK34 _ _ ?_
  refine wp_seq_k ?_; intro K35 hK35
  refine wp_region_lit ?_
  refine sA hS hR (Yld.move hS rfl) (by decide) ?_; clear hS; intro aa hS
  refine sA hS hR (Yld.move hS rfl) (by decide) ?_; clear hS; intro aa hS
  refine sB (Bcall hS rfl Try.call44 (Lend_ok (w9 := 1) (hR.pk (r := linksA _ _ _ _ _ _ _) (by repeat (first | with_reducible exact Pk.here | with_reducible apply Pk.there))) (by omega)) (by decide) ?_); clear hS; intro aa ww vv hS hp
  clear hR
  obtain ⟨rfl, hR⟩ := hp
  refine sA hS hR (Yld.extract hS rfl rfl) (by decide) ?_; clear hS; intro aa hS
  refine sA hS hR (Yld.extract hS rfl rfl) (by decide) ?_; clear hS; intro aa hS
  refine sA hS hR (Yld.assign hS rfl) (by decide) ?_; clear hS; intro aa hS
  refine sA hS hR (Yld.assign hS rfl) (by decide) ?_; clear hS; intro aa hS
  refine wpList_nil ?_
  refine hK35 _ _ ?_
  refine wp_ret ?_
  repeat (first | with_reducible refine thenR ?_ | with_reducible refine blockR ?_ | with_reducible refine scopeR ?_)
  refine retN (fn := Try.f42) (e := .ret) (.inl rfl) Try.results42 hS hR ⟨_, .cons (.tmp rfl) (.cons (.tmp rfl) (.nil)), rfl, ?_⟩
  exact ⟨rfl, (hR.sub (by repeat (first | with_reducible exact Ex.refl | (with_reducible apply Ex.take; · repeat (first | with_reducible exact Pk.here | with_reducible apply Pk.there)) | with_reducible apply Ex.drop)))⟩
set_option maxRecDepth 20000 in
theorem LNext_ok {S n b : Nat} {L : Nat → List Nat} {l : List HP} {w : World} {x : Int} (hR : Sep (linksA 80 77 3 b S n L :: l) w) : CallR Try.prog 50 [.pointer (some ⟨b, 0, none⟩), .int .i64 x] w (fun v w' => v = optV (stepS S n L 0 x) ∧ Sep (linksA 80 77 3 b S n L :: l) w') := by
  refine enter Try.func50 rfl Try.ntmps50 (Nat.le_of_ble_eq_true rfl) ?_; intro aa hS
  refine wp_seq_k ?_; intro K36 hK36
  refine wp_region_lit ?_
  refine sA hS hR (Yld.assign hS rfl) (by decide) ?_; clear hS; intro aa hS
  refine sA hS hR (Yld.assign hS rfl) (by decide) ?_; clear hS; intro aa hS
  refine wpList_nil ?_
  refine hK36 _ _ ?_
  refine wp_seq_k ?_; intro K37 hK37
  refine wp_region_lit ?_
  refine sA hS hR (Yld.move hS rfl) (by decide) ?_; clear hS; intro aa hS
  refine sA hS hR (Yld.move hS rfl) (by decide) ?_; clear hS; intro aa hS
  refine sB (Bcall hS rfl Try.call53 (Lstep_ok (w9 := 0) (hR.pk (r := linksA _ _ _ _ _ _ _) (by repeat (first | with_reducible exact Pk.here | with_reducible apply Pk.there))) (by omega)) (by decide) ?_); clear hS; intro aa ww vv hS hp
  clear hR
  obtain ⟨rfl, hR⟩ := hp
  refine sA hS hR (Yld.extract hS rfl rfl) (by decide) ?_; clear hS; intro aa hS
  refine sA hS hR (Yld.extract hS rfl rfl) (by decide) ?_; clear hS; intro aa hS
  refine sA hS hR (Yld.assign hS rfl) (by decide) ?_; clear hS; intro aa hS
  refine sA hS hR (Yld.assign hS rfl) (by decide) ?_; clear hS; intro aa hS
  refine wpList_nil ?_
  refine hK37 _ _ ?_
  refine wp_ret ?_
  repeat (first | with_reducible refine thenR ?_ | with_reducible refine blockR ?_ | with_reducible refine scopeR ?_)
  refine retN (fn := Try.f50) (e := .ret) (.inl rfl) Try.results50 hS hR ⟨_, .cons (.tmp rfl) (.cons (.tmp rfl) (.nil)), rfl, ?_⟩
  exact ⟨rfl, (hR.sub (by repeat (first | with_reducible exact Ex.refl | (with_reducible apply Ex.take; · repeat (first | with_reducible exact Pk.here | with_reducible apply Pk.there)) | with_reducible apply Ex.drop)))⟩
set_option maxRecDepth 20000 in
theorem LLen_ok {S n b : Nat} {L : Nat → List Nat} {l : List HP} {w : World} {x : Int} (hR : Sep (linksA 80 77 3 b S n L :: l) w) : CallR Try.prog 33 [.pointer (some ⟨b, 0, none⟩), .int .i64 x] w (fun v w' => v = .int .i64 ((allS n L x).length : Int) ∧ Sep (linksA 80 77 3 b S n L :: l) w') := by
  refine enter Try.func33 rfl Try.ntmps33 (Nat.le_of_ble_eq_true rfl) ?_; intro aa hS
  obtain ⟨P, R, rg, nm, sz, r1, c1, r2, c2, r3, c3, r4, c4, hW, hR⟩ := hR.linksAE
  have hs1 := hW.s1
  have hs2 := hW.s2
  have hn1 := hW.n1
  have hn2 := hW.n2
  obtain ⟨hb1, hb2, hb3, hb4⟩ := hR.linksBk hn1
  refine wp_seq_k ?_; intro K38 hK38
  refine wp_region_lit ?_
  refine sA hS hR (Yld.assign hS rfl) (by decide) ?_; clear hS; intro aa hS
  refine wpList_nil ?_
  refine hK38 _ _ ?_
  refine wp_seq_k ?_; intro K39 hK39
  refine wp_seq_k ?_; intro K40 hK40
  refine wp_region_lit ?_
  refine sA hS hR (Yld.move hS rfl) (by decide) ?_; clear hS; intro aa hS
  refine sA hS hR (Yld.move hS rfl) (by decide) ?_; clear hS; intro aa hS
  refine sB (Bcall hS rfl Try.call47 (llist_ok (hR.pk (r := blk b _ _) (by repeat (first | with_reducible exact Pk.here | with_reducible apply Pk.there))) (by omega)) (by decide) ?_); clear hS; intro aa ww vv hS hp
  clear hR
  obtain ⟨rfl, hR⟩ := hp
  refine sA hS hR (Yld.not hS rfl) (by decide) ?_; clear hS; intro aa hS
  refine wpList_nil ?_
  refine hK40 _ _ ?_
  refine hS.splitB (t := 8) rfl ?_ ?_ <;> clear hS
  · intro hg hS
    refine condT hS rfl ?_
    refine wp_seq_k ?_; intro K41 hK41
    refine wp_region_lit ?_
    refine sA hS hR (Yld.assign hS rfl) (by decide) ?_; clear hS; intro aa hS
    refine wpList_nil ?_
    refine hK41 _ _ ?_
    refine wp_ret ?_
    repeat (first | with_reducible refine thenR ?_ | with_reducible refine blockR ?_ | with_reducible refine scopeR ?_)
    refine ret1 (fn := Try.f33) (e := .ret) (.inl rfl) Try.results33 hS hR ⟨_, (.tmp rfl), ?_⟩
    refine ⟨?_, Sep.linksAI (TL := 80) (TN := 77) (TI := 3) (b := b) hW rfl (hR.sub (by repeat (first | with_reducible exact Ex.refl | (with_reducible apply Ex.take; · repeat (first | with_reducible exact Pk.here | with_reducible apply Pk.there)) | with_reducible apply Ex.drop)))⟩
    first | (rw [allS, if_neg (by omega)]; rfl) | (rw [allS, if_pos (by omega), Int.toNat_natCast]; (try rfl); done)
  · intro hg hS
    obtain ⟨x, rfl⟩ : ∃ z9 : Nat, x = z9 := ⟨(x).toNat, by omega⟩
    have hxn : x < n := by omega
    have hri := hW.hrg x hxn
    refine condF hS rfl ?_
    refine wp_skip ?_
    refine hK39 _ _ ?_
    refine wp_seq_k ?_; intro K42 hK42
    refine drawn (by kernel_rfl) hR Ex.refl ?_; clear hR; intro ww hR hR0
    refine dA 0 rfl (by kernel_rfl) (by kernel_rfl) (by kernel_rfl) (fun _ _ _ h => h) hS hR0 (Yld.move hS rfl) (by decide) ?_; clear hS; intro aa hS
    refine dA 1 rfl (by kernel_rfl) (by kernel_rfl) (by kernel_rfl) (fun _ _ _ h => h) hS hR0 (Yld.nilCheck hS rfl) (by decide) ?_; clear hS; intro aa hS
    refine dA 2 rfl (by kernel_rfl) (by kernel_rfl) (by kernel_rfl) (fun _ _ _ h => h) hS hR0 (Yld.fieldAddr hS rfl 4 Try.underlying80 rfl rfl info27 (by decide)) (by decide) ?_; clear hS; intro aa hS
    refine dA 3 rfl (by kernel_rfl) (by kernel_rfl) (by kernel_rfl) (fun _ _ _ h => h) hS hR0 (Yld.load1 hS rfl Try.underlying27 rfl (by first | exact Rd.blk (by repeat (first | with_reducible exact Pk.here | with_reducible apply Pk.there)) (by rfl) | exact Rd.rec (by repeat (first | with_reducible exact Pk.here | with_reducible apply Pk.there)) (by intro _; rfl) (by first | omega | (rw [nods_len]; omega) | (rw [tabN_len]; omega)) rfl | exact Rd.rec0 (by repeat (first | with_reducible exact Pk.here | with_reducible apply Pk.there)) (by intro _; rfl) (by first | omega | (rw [nods_len]; omega) | (rw [tabN_len]; omega)) rfl | exact Rd.flatJ (by repeat (first | with_reducible exact Pk.here | with_reducible apply Pk.there)) (by intro _; rfl) (by first | omega | (rw [nods_len]; omega) | (rw [tabN_len]; omega)) rfl | exact Rd.flat0 (by repeat (first | with_reducible exact Pk.here | with_reducible apply Pk.there)) (by intro _; rfl) (by first | omega | (rw [nods_len]; omega) | (rw [tabN_len]; omega)) rfl)) (by decide) ?_; clear hS; intro aa hS
    refine dA 4 rfl (by kernel_rfl) (by kernel_rfl) (by kernel_rfl) (fun _ _ _ h => h) hS hR0 (Yld.move hS rfl) (by decide) ?_; clear hS; intro aa hS
    refine dA 5 rfl (by kernel_rfl) (by kernel_rfl) (by kernel_rfl) (fun _ _ _ h => h) hS hR0 (Yld.nilCheck hS rfl) (by decide) ?_; clear hS; intro aa hS
    refine dA 6 rfl (by kernel_rfl) (by kernel_rfl) (by kernel_rfl) (fun _ _ _ h => h) hS hR0 (Yld.fieldAddr hS rfl 2 Try.underlying80 rfl rfl info27 (by decide)) (by decide) ?_; clear hS; intro aa hS
    refine dA 7 rfl (by kernel_rfl) (by kernel_rfl) (by kernel_rfl) (fun _ _ _ h => h) hS hR0 (Yld.load1 hS rfl Try.underlying27 rfl (by first | exact Rd.blk (by repeat (first | with_reducible exact Pk.here | with_reducible apply Pk.there)) (by rfl) | exact Rd.rec (by repeat (first | with_reducible exact Pk.here | with_reducible apply Pk.there)) (by intro _; rfl) (by first | omega | (rw [nods_len]; omega) | (rw [tabN_len]; omega)) rfl | exact Rd.rec0 (by repeat (first | with_reducible exact Pk.here | with_reducible apply Pk.there)) (by intro _; rfl) (by first | omega | (rw [nods_len]; omega) | (rw [tabN_len]; omega)) rfl | exact Rd.flatJ (by repeat (first | with_reducible exact Pk.here | with_reducible apply Pk.there)) (by intro _; rfl) (by first | omega | (rw [nods_len]; omega) | (rw [tabN_len]; omega)) rfl | exact Rd.flat0 (by repeat (first | with_reducible exact Pk.here | with_reducible apply Pk.there)) (by intro _; rfl) (by first | omega | (rw [nods_len]; omega) | (rw [tabN_len]; omega)) rfl)) (by decide) ?_; clear hS; intro aa hS
    refine dA 8 rfl (by kernel_rfl) (by kernel_rfl) (by kernel_rfl) (fun _ _ _ h => h) hS hR0 (Yld.move hS rfl) (by decide) ?_; clear hS; intro aa hS
    refine dA 9 rfl (by kernel_rfl) (by kernel_rfl) (by kernel_rfl) (fun _ _ _ h => h) hS hR0 ((by first | exact Yld.indexH (sz := 1) (x) hS rfl rfl Try.underlying27 info3 (by assumption) rfl (by first | rfl | omega) (by omega) | exact Yld.indexL (sz := 1) (x) hS rfl rfl Try.underlying27 info3 (by repeat (first | with_reducible exact Pk.here | with_reducible apply Pk.there)) rfl (by first | rfl | omega) (by omega) | exact Yld.indexB (sz := 1) (x) hS rfl rfl Try.underlying27 info3 rfl (by first | rfl | omega) (by omega))) (by decide) ?_; clear hS; intro aa hS
    refine dA 10 rfl (by kernel_rfl) (by kernel_rfl) (by kernel_rfl) (fun _ _ _ h => h) hS hR0 (Yld.load1 hS rfl Try.underlying3 rfl (Rd.rec0 (k := x) (v := .int .i64 ((rg x : Nat) : Int)) (xs := tabN n rg) (by repeat (first | with_reducible exact Pk.here | with_reducible apply Pk.there)) (by intro _; rfl) (by rw [tabN_len]; omega) (by rw [tabN_get]; rfl))) (by decide) ?_; clear hS; intro aa hS
    refine dA 11 rfl (by kernel_rfl) (by kernel_rfl) (by kernel_rfl) (fun _ _ _ h => h) hS hR0 ((by first | exact Yld.indexH (sz := 1) (rg x) hS rfl rfl Try.underlying27 info3 (by assumption) rfl (by first | rfl | omega) (by omega) | exact Yld.indexL (sz := 1) (rg x) hS rfl rfl Try.underlying27 info3 (by repeat (first | with_reducible exact Pk.here | with_reducible apply Pk.there)) rfl (by first | rfl | omega) (by omega) | exact Yld.indexB (sz := 1) (rg x) hS rfl rfl Try.underlying27 info3 rfl (by first | rfl | omega) (by omega))) (by decide) ?_; clear hS; intro aa hS
    refine dA 12 rfl (by kernel_rfl) (by kernel_rfl) (by kernel_rfl) (fun _ _ _ h => h) hS hR0 (Yld.load1 hS rfl Try.underlying3 rfl (Rd.rec0 (k := (rg x)) (v := .int .i64 ((sz (rg x) : Nat) : Int)) (xs := tabN n sz) (by repeat (first | with_reducible exact Pk.here | with_reducible apply Pk.there)) (by intro _; rfl) (by rw [tabN_len]; omega) (by rw [tabN_get]; rfl))) (by decide) ?_; clear hS; intro aa hS
    rw [hW.hsz x hxn] at hS
    refine dA 13 rfl (by kernel_rfl) (by kernel_rfl) (by kernel_rfl) (fun _ _ _ h => h) hS hR0 (Yld.assign hS rfl) (by decide) ?_; clear hS; intro aa hS
    refine wpAnyH_done (by kernel_rfl) ?_ _; clear hR0
    refine hK42 _ _ ?_
    refine wp_ret ?_
    repeat (first | with_reducible refine thenR ?_ | with_reducible refine blockR ?_ | with_reducible refine scopeR ?_)
    refine ret1 (fn := Try.f33) (e := .ret) (.inl rfl) Try.results33 hS hR ⟨_, (.tmp rfl), ?_⟩
    refine ⟨?_, Sep.linksAI (TL := 80) (TN := 77) (TI := 3) (b := b) hW rfl (hR.sub (by repeat (first | with_reducible exact Ex.refl | (with_reducible apply Ex.take; · repeat (first | with_reducible exact Pk.here | with_reducible apply Pk.there)) | with_reducible apply Ex.drop)))⟩
    first | (rw [allS, if_neg (by omega)]; rfl) | (rw [allS, if_pos (by omega), Int.toNat_natCast]; (try rfl); done)
end Go.Proofs.Ytojeibjlkbffcaa.Sx
