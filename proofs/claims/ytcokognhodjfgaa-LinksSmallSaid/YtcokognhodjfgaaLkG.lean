/-
  
-/
import Derived.Test.YtcokognhodjfgaaLkF
namespace Go.Proofs.Ytcokognhodjfgaa.Sx
open Go
set_option linter.unusedVariables false
set_option linter.unusedSimpArgs false



set_option maxHeartbeats 8000000 in
set_option maxRecDepth 20000 in
theorem LJoin_ok {S n b : Nat} {L : Nat → List Nat} {tq fq : Int} {l : List HP} {w : World} (hR : Sep (linksA 54 65 3 b S n L :: l) w) : CallR Try.prog 29 [.pointer (some ⟨b, 0, none⟩), .int .i64 tq, .int .i64 fq] w (fun v w' => v = .int .i64 (joinE n tq fq) ∧ Sep (linksA 54 65 3 b S n (joinS n L tq fq) :: l) w') := by
  refine enterX Try.func29 rfl Try.ntmps29 (Nat.le_of_ble_eq_true rfl) ?_; intro aa hS
  obtain ⟨P, R, rg, nm, sz, r1, c1, r2, c2, r3, c3, r4, c4, hW, hR⟩ := hR.linksAE
  have hs1 := hW.s1
  have hs2 := hW.s2
  have hn1 := hW.n1
  have hn2 := hW.n2
  obtain ⟨hb1, hb2, hb3, hb4⟩ := hR.linksBk hn1
  refine Go.wpIn_seq_k ?_; intro K151 hK151
  refine Go.wpIn_region_lit ?_
  refine xB hS (Bbox hS hR rfl (by rfl) (by decide) ?_); clear hS hR; intro aa ww bb3 hS hR; refine ⟨hS.defers, ?_⟩
  refine xA hS hR (Yld.assign hS rfl) (by decide) ?_; clear hS; intro aa hS
  refine Go.wpListIn_nil ?_
  refine hK151 _ _ ?_
  refine wpIn_scope_straight ?_
  refine Go.wpIn_seq_k ?_; intro K152 hK152
  refine Go.wpIn_block ?_
  refine Go.wpIn_seq_k ?_; intro K153 hK153
  refine Go.wpIn_region_lit ?_
  refine xA hS hR (Yld.load1 hS rfl Try.underlying23 rfl (by first | exact Rd.blk (by repeat (first | with_reducible exact Pk.here | with_reducible apply Pk.there)) (by rfl) | exact Rd.rec (by repeat (first | with_reducible exact Pk.here | with_reducible apply Pk.there)) (by intro _; rfl) (by first | omega | (rw [nods_len]; omega) | (rw [tabN_len]; omega)) rfl | exact Rd.rec0 (by repeat (first | with_reducible exact Pk.here | with_reducible apply Pk.there)) (by intro _; rfl) (by first | omega | (rw [nods_len]; omega) | (rw [tabN_len]; omega)) rfl | exact Rd.flatJ (by repeat (first | with_reducible exact Pk.here | with_reducible apply Pk.there)) (by intro _; rfl) (by first | omega | (rw [nods_len]; omega) | (rw [tabN_len]; omega)) rfl | exact Rd.flat0 (by repeat (first | with_reducible exact Pk.here | with_reducible apply Pk.there)) (by intro _; rfl) (by first | omega | (rw [nods_len]; omega) | (rw [tabN_len]; omega)) rfl)) (by decide) ?_; clear hS; intro aa hS
  refine xB hS (Bcall hS rfl Try.call36 (lsome_ok (hR.pk (r := blk b _ _) (by repeat (first | with_reducible exact Pk.here | with_reducible apply Pk.there))) (by omega)) (by decide) ?_); clear hS; intro aa ww vv hS hp; refine ⟨hS.defers, ?_⟩
  clear hR
  obtain ⟨rfl, hR⟩ := hp
  refine xA hS hR (Yld.not hS rfl) (by decide) ?_; clear hS; intro aa hS
  refine xA hS hR (Yld.assign hS rfl) (by decide) ?_; clear hS; intro aa hS
  refine Go.wpListIn_nil ?_
  refine hK153 _ _ ?_
  refine xcondF hS rfl ?_
  refine Go.wpIn_seq_k ?_; intro K154 hK154
  refine Go.wpIn_region_lit ?_
  refine xA hS hR (Yld.load1 hS rfl Try.underlying23 rfl (by first | exact Rd.blk (by repeat (first | with_reducible exact Pk.here | with_reducible apply Pk.there)) (by rfl) | exact Rd.rec (by repeat (first | with_reducible exact Pk.here | with_reducible apply Pk.there)) (by intro _; rfl) (by first | omega | (rw [nods_len]; omega) | (rw [tabN_len]; omega)) rfl | exact Rd.rec0 (by repeat (first | with_reducible exact Pk.here | with_reducible apply Pk.there)) (by intro _; rfl) (by first | omega | (rw [nods_len]; omega) | (rw [tabN_len]; omega)) rfl | exact Rd.flatJ (by repeat (first | with_reducible exact Pk.here | with_reducible apply Pk.there)) (by intro _; rfl) (by first | omega | (rw [nods_len]; omega) | (rw [tabN_len]; omega)) rfl | exact Rd.flat0 (by repeat (first | with_reducible exact Pk.here | with_reducible apply Pk.there)) (by intro _; rfl) (by first | omega | (rw [nods_len]; omega) | (rw [tabN_len]; omega)) rfl)) (by decide) ?_; clear hS; intro aa hS
  refine xA hS hR (Yld.move hS rfl) (by decide) ?_; clear hS; intro aa hS
  refine xB hS (Bcall hS rfl Try.call31 (llist_ok (hR.pk (r := blk b _ _) (by repeat (first | with_reducible exact Pk.here | with_reducible apply Pk.there))) (by omega)) (by decide) ?_); clear hS; intro aa ww vv hS hp; refine ⟨hS.defers, ?_⟩
  clear hR
  obtain ⟨rfl, hR⟩ := hp
  refine xA hS hR (Yld.not hS rfl) (by decide) ?_; clear hS; intro aa hS
  refine xA hS hR (Yld.move hS rfl) (by decide) ?_; clear hS; intro aa hS
  refine hS.splitB (t := 23) rfl ?_ ?_ <;> clear hS
  · intro hg hS
    refine xSkip hS rfl rfl rfl (by decide) ?_; clear hS; intro aa hS
    refine xSkip hS rfl rfl rfl (by decide) ?_; clear hS; intro aa hS
    refine xSkip hS rfl rfl rfl (by decide) ?_; clear hS; intro aa hS
    refine xSkip hS rfl rfl rfl (by decide) ?_; clear hS; intro aa hS
    refine xA hS hR (Yld.pickT hS rfl rfl) (by decide) ?_; clear hS; intro aa hS
    refine xA hS hR (Yld.move hS rfl) (by decide) ?_; clear hS; intro aa hS
    refine xSkip hS rfl rfl rfl (by decide) ?_; clear hS; intro aa hS
    refine xSkip hS rfl rfl rfl (by decide) ?_; clear hS; intro aa hS
    refine xSkip hS rfl rfl rfl (by decide) ?_; clear hS; intro aa hS
    refine xA hS hR (Yld.pickT hS rfl rfl) (by decide) ?_; clear hS; intro aa hS
    refine xA hS hR (Yld.assign hS rfl) (by decide) ?_; clear hS; intro aa hS
    refine Go.wpListIn_nil ?_
    refine hK154 _ _ ?_
    refine xcondT hS rfl ?_
    refine Go.wpIn_seq_k ?_; intro K155 hK155
    refine Go.wpIn_region_lit ?_
    refine xA hS hR (Yld.assign hS rfl) (by decide) ?_; clear hS; intro aa hS
    refine Go.wpListIn_nil ?_
    refine hK155 _ _ ?_
    refine Go.wpIn_ret ?_
    repeat (first | with_reducible refine thenR ?_ | with_reducible refine blockR ?_ | with_reducible refine scopeR ?_)
    refine xret1 (fn := Try.f29) (e := .ret) [] rfl (.inl rfl) Try.results29 hS hR ?_; clear hR; intro ww hR; refine ⟨_, (.tmp rfl), ?_⟩
    have he : joinE n tq fq = 2 := by rw [joinE, if_pos (by omega)]
    refine ⟨by rw [he], ?_⟩
    exact Sep.linksAI (TL := 54) (TN := 65) (TI := 3) (b := b) hW (by rw [joinS, he]; rfl) (hR.sub (by repeat (first | with_reducible exact Ex.refl | (with_reducible apply Ex.take; · repeat (first | with_reducible exact Pk.here | with_reducible apply Pk.there)) | with_reducible apply Ex.drop)))
  · intro hg hS
    refine xAg hS hR rfl rfl (Yld.load1 hS rfl Try.underlying23 rfl (by first | exact Rd.blk (by repeat (first | with_reducible exact Pk.here | with_reducible apply Pk.there)) (by rfl) | exact Rd.rec (by repeat (first | with_reducible exact Pk.here | with_reducible apply Pk.there)) (by intro _; rfl) (by first | omega | (rw [nods_len]; omega) | (rw [tabN_len]; omega)) rfl | exact Rd.rec0 (by repeat (first | with_reducible exact Pk.here | with_reducible apply Pk.there)) (by intro _; rfl) (by first | omega | (rw [nods_len]; omega) | (rw [tabN_len]; omega)) rfl | exact Rd.flatJ (by repeat (first | with_reducible exact Pk.here | with_reducible apply Pk.there)) (by intro _; rfl) (by first | omega | (rw [nods_len]; omega) | (rw [tabN_len]; omega)) rfl | exact Rd.flat0 (by repeat (first | with_reducible exact Pk.here | with_reducible apply Pk.there)) (by intro _; rfl) (by first | omega | (rw [nods_len]; omega) | (rw [tabN_len]; omega)) rfl)) (by decide) ?_; clear hS; intro aa hS
    refine xAg hS hR rfl rfl (Yld.move hS rfl) (by decide) ?_; clear hS; intro aa hS
    refine xBg hS rfl rfl (Bcall hS rfl Try.call31 (llist_ok (hR.pk (r := blk b _ _) (by repeat (first | with_reducible exact Pk.here | with_reducible apply Pk.there))) (by omega)) (by decide) ?_); clear hS; intro aa ww vv hS hp; refine ⟨hS.defers, ?_⟩
    clear hR
    obtain ⟨rfl, hR⟩ := hp
    refine xAg hS hR rfl rfl (Yld.not hS rfl) (by decide) ?_; clear hS; intro aa hS
    refine xA hS hR (Yld.pickF hS rfl rfl) (by decide) ?_; clear hS; intro aa hS
    refine xA hS hR (Yld.move hS rfl) (by decide) ?_; clear hS; intro aa hS
    refine hS.splitB (t := 29) rfl ?_ ?_ <;> clear hS
    · intro hg hS
      refine xSkip hS rfl rfl rfl (by decide) ?_; clear hS; intro aa hS
      refine xSkip hS rfl rfl rfl (by decide) ?_; clear hS; intro aa hS
      refine xSkip hS rfl rfl rfl (by decide) ?_; clear hS; intro aa hS
      refine xA hS hR (Yld.pickT hS rfl rfl) (by decide) ?_; clear hS; intro aa hS
      refine xA hS hR (Yld.assign hS rfl) (by decide) ?_; clear hS; intro aa hS
      refine Go.wpListIn_nil ?_
      refine hK154 _ _ ?_
      refine xcondT hS rfl ?_
      refine Go.wpIn_seq_k ?_; intro K156 hK156
      refine Go.wpIn_region_lit ?_
      refine xA hS hR (Yld.assign hS rfl) (by decide) ?_; clear hS; intro aa hS
      refine Go.wpListIn_nil ?_
      refine hK156 _ _ ?_
      refine Go.wpIn_ret ?_
      repeat (first | with_reducible refine thenR ?_ | with_reducible refine blockR ?_ | with_reducible refine scopeR ?_)
      refine xret1 (fn := Try.f29) (e := .ret) [] rfl (.inl rfl) Try.results29 hS hR ?_; clear hR; intro ww hR; refine ⟨_, (.tmp rfl), ?_⟩
      have he : joinE n tq fq = 2 := by rw [joinE, if_pos (by omega)]
      refine ⟨by rw [he], ?_⟩
      exact Sep.linksAI (TL := 54) (TN := 65) (TI := 3) (b := b) hW (by rw [joinS, he]; rfl) (hR.sub (by repeat (first | with_reducible exact Ex.refl | (with_reducible apply Ex.take; · repeat (first | with_reducible exact Pk.here | with_reducible apply Pk.there)) | with_reducible apply Ex.drop)))
    · intro hg hS
      refine xAg hS hR rfl rfl (Yld.move hS rfl) (by decide) ?_; clear hS; intro aa hS
      refine xAg hS hR rfl rfl (Yld.move hS rfl) (by decide) ?_; clear hS; intro aa hS
      refine xAg hS hR rfl rfl (Yld.eql hS rfl rfl) (by decide) ?_; clear hS; intro aa hS
      refine xA hS hR (Yld.pickF hS rfl rfl) (by decide) ?_; clear hS; intro aa hS
      refine xA hS hR (Yld.assign hS rfl) (by decide) ?_; clear hS; intro aa hS
      refine Go.wpListIn_nil ?_
      refine hK154 _ _ ?_
      refine hS.splitB (t := 18) rfl ?_ ?_ <;> clear hS
      · intro hg hS
        refine xcondT hS rfl ?_
        refine Go.wpIn_seq_k ?_; intro K157 hK157
        refine Go.wpIn_region_lit ?_
        refine xA hS hR (Yld.assign hS rfl) (by decide) ?_; clear hS; intro aa hS
        refine Go.wpListIn_nil ?_
        refine hK157 _ _ ?_
        refine Go.wpIn_ret ?_
        repeat (first | with_reducible refine thenR ?_ | with_reducible refine blockR ?_ | with_reducible refine scopeR ?_)
        refine xret1 (fn := Try.f29) (e := .ret) [] rfl (.inl rfl) Try.results29 hS hR ?_; clear hR; intro ww hR; refine ⟨_, (.tmp rfl), ?_⟩
        have he : joinE n tq fq = 2 := by rw [joinE, if_pos (by omega)]
        refine ⟨by rw [he], ?_⟩
        exact Sep.linksAI (TL := 54) (TN := 65) (TI := 3) (b := b) hW (by rw [joinS, he]; rfl) (hR.sub (by repeat (first | with_reducible exact Ex.refl | (with_reducible apply Ex.take; · repeat (first | with_reducible exact Pk.here | with_reducible apply Pk.there)) | with_reducible apply Ex.drop)))
      · intro hg hS
        obtain ⟨tq, rfl⟩ : ∃ z9 : Nat, tq = z9 := ⟨(tq).toNat, by omega⟩
        obtain ⟨fq, rfl⟩ : ∃ z9 : Nat, fq = z9 := ⟨(fq).toNat, by omega⟩
        have htn : tq < n := by omega
        have hfn : fq < n := by omega
        have hxy : tq ≠ fq := by omega
        have hrt := hW.hrg tq htn
        have hrf := hW.hrg fq hfn
        have hrr : rg tq ≠ rg fq := fun e => hxy (hW.inj htn hfn e)
        refine xcondF hS rfl ?_
        refine Go.wpIn_skip ?_
        refine hK152 _ _ ?_
        refine Go.wpIn_seq_k ?_; intro K158 hK158
        refine xdrawn (by kernel_rfl) (by kernel_rfl) hS hR Ex.refl ?_; clear hR; intro ww hR hR0
        refine dA 0 rfl (by kernel_rfl) (by kernel_rfl) (by kernel_rfl) (fun _ _ _ h => h) hS hR0 (Yld.load1 hS rfl Try.underlying23 rfl (by first | exact Rd.blk (by repeat (first | with_reducible exact Pk.here | with_reducible apply Pk.there)) (by rfl) | exact Rd.rec (by repeat (first | with_reducible exact Pk.here | with_reducible apply Pk.there)) (by intro _; rfl) (by first | omega | (rw [nods_len]; omega) | (rw [tabN_len]; omega)) rfl | exact Rd.rec0 (by repeat (first | with_reducible exact Pk.here | with_reducible apply Pk.there)) (by intro _; rfl) (by first | omega | (rw [nods_len]; omega) | (rw [tabN_len]; omega)) rfl | exact Rd.flatJ (by repeat (first | with_reducible exact Pk.here | with_reducible apply Pk.there)) (by intro _; rfl) (by first | omega | (rw [nods_len]; omega) | (rw [tabN_len]; omega)) rfl | exact Rd.flat0 (by repeat (first | with_reducible exact Pk.here | with_reducible apply Pk.there)) (by intro _; rfl) (by first | omega | (rw [nods_len]; omega) | (rw [tabN_len]; omega)) rfl)) (by decide) ?_; clear hS; intro aa hS
        refine dA 1 rfl (by kernel_rfl) (by kernel_rfl) (by kernel_rfl) (fun _ _ _ h => h) hS hR0 (Yld.nilCheck hS rfl) (by decide) ?_; clear hS; intro aa hS
        refine dA 2 rfl (by kernel_rfl) (by kernel_rfl) (by kernel_rfl) (fun _ _ _ h => h) hS hR0 (Yld.fieldAddr hS rfl 2 Try.underlying54 rfl rfl info27 (by decide)) (by decide) ?_; clear hS; intro aa hS
        refine dA 3 rfl (by kernel_rfl) (by kernel_rfl) (by kernel_rfl) (fun _ _ _ h => h) hS hR0 (Yld.load1 hS rfl Try.underlying27 rfl (by first | exact Rd.blk (by repeat (first | with_reducible exact Pk.here | with_reducible apply Pk.there)) (by rfl) | exact Rd.rec (by repeat (first | with_reducible exact Pk.here | with_reducible apply Pk.there)) (by intro _; rfl) (by first | omega | (rw [nods_len]; omega) | (rw [tabN_len]; omega)) rfl | exact Rd.rec0 (by repeat (first | with_reducible exact Pk.here | with_reducible apply Pk.there)) (by intro _; rfl) (by first | omega | (rw [nods_len]; omega) | (rw [tabN_len]; omega)) rfl | exact Rd.flatJ (by repeat (first | with_reducible exact Pk.here | with_reducible apply Pk.there)) (by intro _; rfl) (by first | omega | (rw [nods_len]; omega) | (rw [tabN_len]; omega)) rfl | exact Rd.flat0 (by repeat (first | with_reducible exact Pk.here | with_reducible apply Pk.there)) (by intro _; rfl) (by first | omega | (rw [nods_len]; omega) | (rw [tabN_len]; omega)) rfl)) (by decide) ?_; clear hS; intro aa hS
        refine dA 4 rfl (by kernel_rfl) (by kernel_rfl) (by kernel_rfl) (fun _ _ _ h => h) hS hR0 (Yld.move hS rfl) (by decide) ?_; clear hS; intro aa hS
        refine dA 5 rfl (by kernel_rfl) (by kernel_rfl) (by kernel_rfl) (fun _ _ _ h => h) hS hR0 ((by first | exact Yld.indexH (sz := 1) (tq) hS rfl rfl Try.underlying27 info3 (by assumption) rfl (by first | rfl | omega) (by omega) | exact Yld.indexL (sz := 1) (tq) hS rfl rfl Try.underlying27 info3 (by repeat (first | with_reducible exact Pk.here | with_reducible apply Pk.there)) rfl (by first | rfl | omega) (by omega) | exact Yld.indexB (sz := 1) (tq) hS rfl rfl Try.underlying27 info3 rfl (by first | rfl | omega) (by omega))) (by decide) ?_; clear hS; intro aa hS
        refine dA 6 rfl (by kernel_rfl) (by kernel_rfl) (by kernel_rfl) (fun _ _ _ h => h) hS hR0 (Yld.load1 hS rfl Try.underlying3 rfl (Rd.rec0 (k := tq) (v := .int .i64 ((rg tq : Nat) : Int)) (xs := tabN n rg) (by repeat (first | with_reducible exact Pk.here | with_reducible apply Pk.there)) (by intro _; rfl) (by rw [tabN_len]; omega) (by rw [tabN_get]; rfl))) (by decide) ?_; clear hS; intro aa hS
        refine dA 7 rfl (by kernel_rfl) (by kernel_rfl) (by kernel_rfl) (fun _ _ _ h => h) hS hR0 (Yld.load1 hS rfl Try.underlying23 rfl (by first | exact Rd.blk (by repeat (first | with_reducible exact Pk.here | with_reducible apply Pk.there)) (by rfl) | exact Rd.rec (by repeat (first | with_reducible exact Pk.here | with_reducible apply Pk.there)) (by intro _; rfl) (by first | omega | (rw [nods_len]; omega) | (rw [tabN_len]; omega)) rfl | exact Rd.rec0 (by repeat (first | with_reducible exact Pk.here | with_reducible apply Pk.there)) (by intro _; rfl) (by first | omega | (rw [nods_len]; omega) | (rw [tabN_len]; omega)) rfl | exact Rd.flatJ (by repeat (first | with_reducible exact Pk.here | with_reducible apply Pk.there)) (by intro _; rfl) (by first | omega | (rw [nods_len]; omega) | (rw [tabN_len]; omega)) rfl | exact Rd.flat0 (by repeat (first | with_reducible exact Pk.here | with_reducible apply Pk.there)) (by intro _; rfl) (by first | omega | (rw [nods_len]; omega) | (rw [tabN_len]; omega)) rfl)) (by decide) ?_; clear hS; intro aa hS
        refine dA 8 rfl (by kernel_rfl) (by kernel_rfl) (by kernel_rfl) (fun _ _ _ h => h) hS hR0 (Yld.nilCheck hS rfl) (by decide) ?_; clear hS; intro aa hS
        refine dA 9 rfl (by kernel_rfl) (by kernel_rfl) (by kernel_rfl) (fun _ _ _ h => h) hS hR0 (Yld.fieldAddr hS rfl 2 Try.underlying54 rfl rfl info27 (by decide)) (by decide) ?_; clear hS; intro aa hS
        refine dA 10 rfl (by kernel_rfl) (by kernel_rfl) (by kernel_rfl) (fun _ _ _ h => h) hS hR0 (Yld.load1 hS rfl Try.underlying27 rfl (by first | exact Rd.blk (by repeat (first | with_reducible exact Pk.here | with_reducible apply Pk.there)) (by rfl) | exact Rd.rec (by repeat (first | with_reducible exact Pk.here | with_reducible apply Pk.there)) (by intro _; rfl) (by first | omega | (rw [nods_len]; omega) | (rw [tabN_len]; omega)) rfl | exact Rd.rec0 (by repeat (first | with_reducible exact Pk.here | with_reducible apply Pk.there)) (by intro _; rfl) (by first | omega | (rw [nods_len]; omega) | (rw [tabN_len]; omega)) rfl | exact Rd.flatJ (by repeat (first | with_reducible exact Pk.here | with_reducible apply Pk.there)) (by intro _; rfl) (by first | omega | (rw [nods_len]; omega) | (rw [tabN_len]; omega)) rfl | exact Rd.flat0 (by repeat (first | with_reducible exact Pk.here | with_reducible apply Pk.there)) (by intro _; rfl) (by first | omega | (rw [nods_len]; omega) | (rw [tabN_len]; omega)) rfl)) (by decide) ?_; clear hS; intro aa hS
        refine dA 11 rfl (by kernel_rfl) (by kernel_rfl) (by kernel_rfl) (fun _ _ _ h => h) hS hR0 (Yld.move hS rfl) (by decide) ?_; clear hS; intro aa hS
        refine dA 12 rfl (by kernel_rfl) (by kernel_rfl) (by kernel_rfl) (fun _ _ _ h => h) hS hR0 ((by first | exact Yld.indexH (sz := 1) (fq) hS rfl rfl Try.underlying27 info3 (by assumption) rfl (by first | rfl | omega) (by omega) | exact Yld.indexL (sz := 1) (fq) hS rfl rfl Try.underlying27 info3 (by repeat (first | with_reducible exact Pk.here | with_reducible apply Pk.there)) rfl (by first | rfl | omega) (by omega) | exact Yld.indexB (sz := 1) (fq) hS rfl rfl Try.underlying27 info3 rfl (by first | rfl | omega) (by omega))) (by decide) ?_; clear hS; intro aa hS
        refine dA 13 rfl (by kernel_rfl) (by kernel_rfl) (by kernel_rfl) (fun _ _ _ h => h) hS hR0 (Yld.load1 hS rfl Try.underlying3 rfl (Rd.rec0 (k := fq) (v := .int .i64 ((rg fq : Nat) : Int)) (xs := tabN n rg) (by repeat (first | with_reducible exact Pk.here | with_reducible apply Pk.there)) (by intro _; rfl) (by rw [tabN_len]; omega) (by rw [tabN_get]; rfl))) (by decide) ?_; clear hS; intro aa hS
        refine dOne (i := 14) (by kernel_rfl) ?_
        refine dop rfl (Balloc hS hR info3 (by rfl) (by rfl) (by decide) ?_); clear hS hR hR0; intro aa ww bb9 hS hR
        refine dnext (hR.sub (by repeat (first | with_reducible exact Ex.refl | (with_reducible apply Ex.take; · repeat (first | with_reducible exact Pk.here | with_reducible apply Pk.there)) | with_reducible apply Ex.drop))) ?_; intro hR0
        refine dA 15 rfl (by kernel_rfl) (by kernel_rfl) (by kernel_rfl) (fun _ _ _ h => h) hS hR0 (Yld.assign hS rfl) (by decide) ?_; clear hS; intro aa hS
        refine dA 16 rfl (by kernel_rfl) (by kernel_rfl) (by kernel_rfl) (fun _ _ _ h => h) hS hR0 (Yld.assign hS rfl) (by decide) ?_; clear hS; intro aa hS
        refine dOne (i := 17) (by kernel_rfl) ?_
        refine dop rfl (Bstore hS hR rfl rfl (by rfl) info3 (by rfl) (by repeat (first | with_reducible exact Pk.here | with_reducible apply Pk.there)) (by rfl) (Nat.le_of_ble_eq_true rfl) ?_); clear hR hR0; intro ww hR
        refine dnext (hR.sub (by repeat (first | with_reducible exact Ex.refl | (with_reducible apply Ex.take; · repeat (first | with_reducible exact Pk.here | with_reducible apply Pk.there)) | with_reducible apply Ex.drop))) ?_; intro hR0
        refine wpAnyH_done (by kernel_rfl) ?_ _; clear hR0; refine ⟨by simp, hS.defers, ?_⟩
        refine hK158 _ _ ?_
        refine Go.wpIn_seq_k ?_; intro K159 hK159
        have tail159 : ∀ (L2 : Nat → List Nat) (rg2 nm2 : Nat → Nat) (wv bb3 bb9 : Nat) (hW2 : LW S n L2 P R rg2 nm2 sz) (hwv : wv < 2) (hfin : upd (upd L2 fq []) tq (joinL wv (L2 tq) (dirL (1 - wv) (L2 fq))) = upd (upd L fq []) tq (L tq ++ L fq)) (aa : Act) (ww : World), Has 150 aa [(3, .pointer (some ⟨bb3, 0, none⟩)), (7, .int .i64 ((wv : Nat) : Int)), (8, .int .i64 ((rg2 tq : Nat) : Int)), (9, .pointer (some ⟨bb9, 0, none⟩))] → Sep (blk bb9 [.int .i64 ((rg2 fq : Nat) : Int)] 3 :: blk bb3 [.pointer (some ⟨b, 0, none⟩)] 23 :: blk b [.slice r1 (S + n) c1, .int .i64 (S : Int), .slice r2 n c2, .slice r3 n c3, .slice r4 n c4] 54 :: sls r1 (S + n) c1 65 3 ((nods (S + n) P R).flatMap eL) :: sls r2 n c2 3 1 ((tabN n rg2).flatMap e1) :: sls r3 n c3 3 1 ((tabN n nm2).flatMap e1) :: sls r4 n c4 3 1 ((tabN n sz).flatMap e1) :: l) ww → K159 (wd [] aa) ww := by
          clear hS hR; intro L2 rg2 nm2 wv bb3 bb9 hW2 hwv hfin aa ww hS hR
          refine hK159 _ _ ?_
          have hrt2 := hW2.hrg tq htn
          have hrf2 := hW2.hrg fq hfn
          obtain ⟨M, hM⟩ : ∃ M, dirL (1 - wv) (L2 fq) = M := ⟨_, rfl⟩
          have hm0 := (hW2.ring fq hfn).step0 (w := 1 - wv) (by omega)
          have hms := fun (i : Nat) (h : i < (dirL (1 - wv) (L2 fq)).length) => (hW2.ring fq hfn).step (w := 1 - wv) (by omega) h
          have hmb : ∀ i : Nat, (dirL (1 - wv) (L2 fq))[i]?.getD (S + rg2 fq) < S + n := fun i => by
            rcases List.mem_cons.1 (hW2.seqB (w := 1 - wv) (k := i) hfn) with h | h
            · omega
            · have := hW2.lt fq hfn _ h; omega
          have hme : ∀ i : Nat, i < (dirL (1 - wv) (L2 fq)).length → (dirL (1 - wv) (L2 fq))[i]?.getD (S + rg2 fq) ≠ S + rg2 fq := fun i h => by have := hW2.seqE (w := 1 - wv) hfn h; omega
          have hMl : M.length ≤ S := by rw [← hM, dirL_len]; exact hW2.len hfn
          have hszM : sz (rg2 fq) = M.length := by rw [← hM, dirL_len]; exact hW2.hsz fq hfn
          rw [hM] at hm0 hms hmb hme
          refine Go.wpIn_seq_k ?_; intro K160 hK160
          refine Go.wpIn_region_lit ?_
          refine xB hS (Balloc hS hR info27 (by rfl) (by rfl) (by decide) ?_); clear hS hR; intro aa ww bb10 hS hR; refine ⟨hS.defers, ?_⟩
          refine Go.wpListIn_nil ?_
          refine hK160 _ _ ?_
          refine Go.wpIn_seq_k ?_; intro K161 hK161
          refine Go.wpIn_label ?_
          refine hK161 _ _ ?_
          refine Go.wpIn_seq_k ?_; intro K162 hK162
          have tail162 : ∀ (D9 : Nat) (xs : List Int) (r0 : Option Addr) (c0 : Nat) (hI : xs = cst M) (aa : Act) (ww : World), Has 150 aa [(3, .pointer (some ⟨bb3, 0, none⟩)), (7, .int .i64 ((wv : Nat) : Int)), (8, .int .i64 ((rg2 tq : Nat) : Int)), (10, .pointer (some ⟨bb10, 0, none⟩))] → Sep (DF D9 :: blk bb3 [.pointer (some ⟨b, 0, none⟩)] 23 :: blk b [.slice r1 (S + n) c1, .int .i64 (S : Int), .slice r2 n c2, .slice r3 n c3, .slice r4 n c4] 54 :: sls r1 (S + n) c1 65 3 ((nods (S + n) P R).flatMap eL) :: sls r2 n c2 3 1 ((tabN n rg2).flatMap e1) :: sls r3 n c3 3 1 ((tabN n nm2).flatMap e1) :: sls r4 n c4 3 1 ((tabN n sz).flatMap e1) :: blk bb10 [.slice r0 xs.length c0] 27 :: sls r0 xs.length c0 3 1 (xs.flatMap e1) :: l) ww → K162 (wd [mk D9] aa) ww := by
            clear hS hR; intro D9 xs r0 c0 hI aa ww hS hR
            refine hK162 _ _ ?_
            refine Go.wpIn_seq_k ?_; intro K163 hK163
            refine Go.wpIn_seq_k ?_; intro K164 hK164
            refine Go.wpIn_region_lit ?_
            refine xA hS hR (Yld.load1 hS rfl Try.underlying27 rfl (by first | exact Rd.blk (by repeat (first | with_reducible exact Pk.here | with_reducible apply Pk.there)) (by rfl) | exact Rd.rec (by repeat (first | with_reducible exact Pk.here | with_reducible apply Pk.there)) (by intro _; rfl) (by first | omega | (rw [nods_len]; omega) | (rw [tabN_len]; omega)) rfl | exact Rd.rec0 (by repeat (first | with_reducible exact Pk.here | with_reducible apply Pk.there)) (by intro _; rfl) (by first | omega | (rw [nods_len]; omega) | (rw [tabN_len]; omega)) rfl | exact Rd.flatJ (by repeat (first | with_reducible exact Pk.here | with_reducible apply Pk.there)) (by intro _; rfl) (by first | omega | (rw [nods_len]; omega) | (rw [tabN_len]; omega)) rfl | exact Rd.flat0 (by repeat (first | with_reducible exact Pk.here | with_reducible apply Pk.there)) (by intro _; rfl) (by first | omega | (rw [nods_len]; omega) | (rw [tabN_len]; omega)) rfl)) (by decide) ?_; clear hS; intro aa hS
            refine xA hS hR (Yld.len hS rfl Try.underlying27) (by decide) ?_; clear hS; intro aa hS
            refine xA hS hR (Yld.move hS rfl) (by decide) ?_; clear hS; intro aa hS
            refine Go.wpListIn_nil ?_
            refine hK164 _ _ ?_
            refine Go.wpIn_block ?_
            subst hI
            replace hR := hR.pk (r := sls r4 n c4 3 1 ((tabN n sz).flatMap e1)) (by repeat (first | with_reducible exact Pk.here | with_reducible apply Pk.there))
            replace hR := hR.pk (r := sls r1 (S + n) c1 65 3 ((nods (S + n) P R).flatMap eL)) (by repeat (first | with_reducible exact Pk.here | with_reducible apply Pk.there))
            refine xloopI (X := Nat × (Nat → Nat → Nat) × (Nat → Int) × (Nat → Nat)) [(3, _), (7, _), (8, _), (113, _), (114, _)] (fun x => [(115, .int .i64 (x.1 : Int))]) (fun x => [sls r1 (S + n) c1 65 3 ((nods (S + n) x.2.1 x.2.2.1).flatMap eL), sls r4 n c4 3 1 ((tabN n x.2.2.2).flatMap e1)]) _ (fun x => x.1 ≤ M.length ∧ LW S n (mvL L2 wv tq fq x.1) x.2.1 x.2.2.1 rg2 nm2 x.2.2.2) (fun x => M.length - x.1) (0, P, R, sz) ⟨Nat.zero_le _, by rw [mvL_zero hxy]; exact hW2⟩ (hS.le (Le.cons rfl (Le.nilapp (Le.cons rfl (Le.cons rfl (Le.cons rfl (Le.cons rfl (Le.cons rfl (Le.nil _))))))))) hR ?_
            clear hS hR; rintro ⟨j, P, R, sz⟩ aa ww hI hS hR; dsimp only [List.cons_append, List.nil_append] at hI hS hR
            refine Go.wpIn_seq_k ?_; intro K166 hK166
            refine Go.wpIn_region_lit ?_
            refine xA hS hR (Yld.lss hS rfl rfl) (by decide) ?_; clear hS; intro aa hS
            refine Go.wpListIn_nil ?_
            refine hK166 _ _ ?_
            refine Go.wpIn_seq_k ?_; intro K167 hK167
            refine hS.splitB (t := 116) rfl ?_ ?_ <;> clear hS
            · intro hg hS
              have hjm : j < M.length := by rw [cst_len] at hg; omega
              refine xcondT hS rfl ?_
              refine Go.wpIn_skip ?_
              refine hK167 _ _ ?_
              refine Go.wpIn_seq_k ?_; intro K168 hK168
              refine Go.wpIn_block ?_
              refine Go.wpIn_seq_k ?_; intro K169 hK169
              refine Go.wpIn_region_lit ?_
              refine xA hS hR ((by first | exact Yld.indexH (sz := 1) (j) hS rfl rfl Try.underlying27 info3 (by assumption) rfl (by first | rfl | omega) (by omega) | exact Yld.indexL (sz := 1) (j) hS rfl rfl Try.underlying27 info3 (by repeat (first | with_reducible exact Pk.here | with_reducible apply Pk.there)) rfl (by first | rfl | omega) (by omega) | exact Yld.indexB (sz := 1) (j) hS rfl rfl Try.underlying27 info3 rfl (by first | rfl | omega) (by omega))) (by decide) ?_; clear hS; intro aa hS
              refine xA hS hR (Yld.load1 hS rfl Try.underlying3 rfl (by first | exact Rd.blk (by repeat (first | with_reducible exact Pk.here | with_reducible apply Pk.there)) (by rfl) | exact Rd.rec (by repeat (first | with_reducible exact Pk.here | with_reducible apply Pk.there)) (by intro _; rfl) (by first | omega | (rw [nods_len]; omega) | (rw [tabN_len]; omega)) rfl | exact Rd.rec0 (by repeat (first | with_reducible exact Pk.here | with_reducible apply Pk.there)) (by intro _; rfl) (by first | omega | (rw [nods_len]; omega) | (rw [tabN_len]; omega)) rfl | exact Rd.flatJ (by repeat (first | with_reducible exact Pk.here | with_reducible apply Pk.there)) (by intro _; rfl) (by first | omega | (rw [nods_len]; omega) | (rw [tabN_len]; omega)) rfl | exact Rd.flat0 (by repeat (first | with_reducible exact Pk.here | with_reducible apply Pk.there)) (by intro _; rfl) (by first | omega | (rw [nods_len]; omega) | (rw [tabN_len]; omega)) rfl)) (by decide) ?_; clear hS; intro aa hS
              obtain ⟨s, hsj⟩ : ∃ z, M[j]'hjm = z := ⟨_, rfl⟩
              have hmem : s ∈ mvL L2 wv tq fq j fq := by subst hM; rw [← hsj]; exact mvL_mem hxy _
              have hsS := hI.2.lt fq hfn s hmem
              replace hS := hS.say (t := 118) (.int .i64 ((s : Nat) : Int)) rfl (by rw [cst_get, hsj])
              refine xA hS hR (Yld.assign hS rfl) (by decide) ?_; clear hS; intro aa hS
              refine Go.wpListIn_nil ?_
              refine hK169 _ _ ?_
              refine Go.wpIn_seq_k ?_; intro K170 hK170
              refine Go.wpIn_region_lit ?_
              refine xA hS hR (Yld.load1 hS rfl Try.underlying23 rfl (by first | exact Rd.blk (by repeat (first | with_reducible exact Pk.here | with_reducible apply Pk.there)) (by rfl) | exact Rd.rec (by repeat (first | with_reducible exact Pk.here | with_reducible apply Pk.there)) (by intro _; rfl) (by first | omega | (rw [nods_len]; omega) | (rw [tabN_len]; omega)) rfl | exact Rd.rec0 (by repeat (first | with_reducible exact Pk.here | with_reducible apply Pk.there)) (by intro _; rfl) (by first | omega | (rw [nods_len]; omega) | (rw [tabN_len]; omega)) rfl | exact Rd.flatJ (by repeat (first | with_reducible exact Pk.here | with_reducible apply Pk.there)) (by intro _; rfl) (by first | omega | (rw [nods_len]; omega) | (rw [tabN_len]; omega)) rfl | exact Rd.flat0 (by repeat (first | with_reducible exact Pk.here | with_reducible apply Pk.there)) (by intro _; rfl) (by first | omega | (rw [nods_len]; omega) | (rw [tabN_len]; omega)) rfl)) (by decide) ?_; clear hS; intro aa hS
              refine xA hS hR (Yld.move hS rfl) (by decide) ?_; clear hS; intro aa hS
              refine xB hS (Bcall hS rfl Try.call16 (LOutO_ok (((((hR.pk (r := sls r4 _ _ _ _ _) (by repeat (first | with_reducible exact Pk.here | with_reducible apply Pk.there))).pk (r := sls r3 _ _ _ _ _) (by repeat (first | with_reducible exact Pk.here | with_reducible apply Pk.there))).pk (r := sls r2 _ _ _ _ _) (by repeat (first | with_reducible exact Pk.here | with_reducible apply Pk.there))).pk (r := sls r1 _ _ _ _ _) (by repeat (first | with_reducible exact Pk.here | with_reducible apply Pk.there))).pk (r := blk b _ _) (by repeat (first | with_reducible exact Pk.here | with_reducible apply Pk.there))) hI.2 hfn hmem hb1 hb4) (by decide) ?_); clear hS; intro aa ww vv hS hp; refine ⟨hS.defers, ?_⟩
              clear hR
              obtain ⟨rfl, hR⟩ := hp
              have hW3 := hI.2.out hfn hmem
              have hno := hI.2.outNo hfn hmem
              obtain ⟨P1, hP1⟩ : ∃ z, outP P s = z := ⟨_, rfl⟩
              obtain ⟨R1, hR1⟩ : ∃ z, upd R s (-1) = z := ⟨_, rfl⟩
              obtain ⟨sz1, hsz1⟩ : ∃ z, upd sz (rg2 fq) (sz (rg2 fq) - 1) = z := ⟨_, rfl⟩
              rw [hP1, hR1, hsz1] at hR hW3
              have hlen3 := hW3.len htn
              have hsz3 := hW3.hsz tq htn
              refine Go.wpListIn_nil ?_
              refine hK170 _ _ ?_
              refine Go.wpIn_seq_k ?_; intro K171 hK171
              refine xdrawn (by kernel_rfl) (by kernel_rfl) hS hR (Ex.of_pk (r := sls r1 _ _ _ _ _) (by repeat (first | with_reducible exact Pk.here | with_reducible apply Pk.there))) ?_; clear hR; intro ww hR hR0
              refine dA 0 rfl (by kernel_rfl) (by kernel_rfl) (by kernel_rfl) (fun _ _ _ h => h) hS hR0 (Yld.load1 hS rfl Try.underlying23 rfl (by first | exact Rd.blk (by repeat (first | with_reducible exact Pk.here | with_reducible apply Pk.there)) (by rfl) | exact Rd.rec (by repeat (first | with_reducible exact Pk.here | with_reducible apply Pk.there)) (by intro _; rfl) (by first | omega | (rw [nods_len]; omega) | (rw [tabN_len]; omega)) rfl | exact Rd.rec0 (by repeat (first | with_reducible exact Pk.here | with_reducible apply Pk.there)) (by intro _; rfl) (by first | omega | (rw [nods_len]; omega) | (rw [tabN_len]; omega)) rfl | exact Rd.flatJ (by repeat (first | with_reducible exact Pk.here | with_reducible apply Pk.there)) (by intro _; rfl) (by first | omega | (rw [nods_len]; omega) | (rw [tabN_len]; omega)) rfl | exact Rd.flat0 (by repeat (first | with_reducible exact Pk.here | with_reducible apply Pk.there)) (by intro _; rfl) (by first | omega | (rw [nods_len]; omega) | (rw [tabN_len]; omega)) rfl)) (by decide) ?_; clear hS; intro aa hS
              refine dA 1 rfl (by kernel_rfl) (by kernel_rfl) (by kernel_rfl) (fun _ _ _ h => h) hS hR0 (Yld.load1 hS rfl Try.underlying23 rfl (by first | exact Rd.blk (by repeat (first | with_reducible exact Pk.here | with_reducible apply Pk.there)) (by rfl) | exact Rd.rec (by repeat (first | with_reducible exact Pk.here | with_reducible apply Pk.there)) (by intro _; rfl) (by first | omega | (rw [nods_len]; omega) | (rw [tabN_len]; omega)) rfl | exact Rd.rec0 (by repeat (first | with_reducible exact Pk.here | with_reducible apply Pk.there)) (by intro _; rfl) (by first | omega | (rw [nods_len]; omega) | (rw [tabN_len]; omega)) rfl | exact Rd.flatJ (by repeat (first | with_reducible exact Pk.here | with_reducible apply Pk.there)) (by intro _; rfl) (by first | omega | (rw [nods_len]; omega) | (rw [tabN_len]; omega)) rfl | exact Rd.flat0 (by repeat (first | with_reducible exact Pk.here | with_reducible apply Pk.there)) (by intro _; rfl) (by first | omega | (rw [nods_len]; omega) | (rw [tabN_len]; omega)) rfl)) (by decide) ?_; clear hS; intro aa hS
              refine dA 2 rfl (by kernel_rfl) (by kernel_rfl) (by kernel_rfl) (fun _ _ _ h => h) hS hR0 (Yld.nilCheck hS rfl) (by decide) ?_; clear hS; intro aa hS
              refine dA 3 rfl (by kernel_rfl) (by kernel_rfl) (by kernel_rfl) (fun _ _ _ h => h) hS hR0 (Yld.fieldAddr hS rfl 1 Try.underlying54 rfl rfl info3 (by decide)) (by decide) ?_; clear hS; intro aa hS
              refine dA 4 rfl (by kernel_rfl) (by kernel_rfl) (by kernel_rfl) (fun _ _ _ h => h) hS hR0 (Yld.load1 hS rfl Try.underlying3 rfl (by first | exact Rd.blk (by repeat (first | with_reducible exact Pk.here | with_reducible apply Pk.there)) (by rfl) | exact Rd.rec (by repeat (first | with_reducible exact Pk.here | with_reducible apply Pk.there)) (by intro _; rfl) (by first | omega | (rw [nods_len]; omega) | (rw [tabN_len]; omega)) rfl | exact Rd.rec0 (by repeat (first | with_reducible exact Pk.here | with_reducible apply Pk.there)) (by intro _; rfl) (by first | omega | (rw [nods_len]; omega) | (rw [tabN_len]; omega)) rfl | exact Rd.flatJ (by repeat (first | with_reducible exact Pk.here | with_reducible apply Pk.there)) (by intro _; rfl) (by first | omega | (rw [nods_len]; omega) | (rw [tabN_len]; omega)) rfl | exact Rd.flat0 (by repeat (first | with_reducible exact Pk.here | with_reducible apply Pk.there)) (by intro _; rfl) (by first | omega | (rw [nods_len]; omega) | (rw [tabN_len]; omega)) rfl)) (by decide) ?_; clear hS; intro aa hS
              refine dA 5 rfl (by kernel_rfl) (by kernel_rfl) (by kernel_rfl) (fun _ _ _ h => h) hS hR0 (Yld.move hS rfl) (by decide) ?_; clear hS; intro aa hS
              refine dA 6 rfl (by kernel_rfl) (by kernel_rfl) (by kernel_rfl) (fun _ _ _ h => h) hS hR0 ((by first | exact Yld.add64 hS rfl rfl (by omega) | exact Yld.add hS rfl rfl)) (by decide) ?_; clear hS; intro aa hS
              replace hS := hS.say (t := 128) (.int .i64 ((S + rg2 tq : Nat) : Int)) rfl (by rw [Int.natCast_add])
              refine dA 7 rfl (by kernel_rfl) (by kernel_rfl) (by kernel_rfl) (fun _ _ _ h => h) hS hR0 (Yld.move hS rfl) (by decide) ?_; clear hS; intro aa hS
              refine dA 8 rfl (by kernel_rfl) (by kernel_rfl) (by kernel_rfl) (fun _ _ _ h => h) hS hR0 (Yld.move hS rfl) (by decide) ?_; clear hS; intro aa hS
              refine dOne (i := 9) (by kernel_rfl) ?_
              refine dop rfl (Bcall hS rfl Try.call44 (lput_ok ((hR.pk (r := sls r1 _ _ _ _ _) (by repeat (first | with_reducible exact Pk.here | with_reducible apply Pk.there))).pk (r := blk b _ _) (by repeat (first | with_reducible exact Pk.here | with_reducible apply Pk.there))) hb1 (by omega) (by omega) (hW3.bnd hwv htn List.mem_cons_self) hwv) (by decide) ?_); clear hS; intro aa ww vv hS hp
              clear hR hR0
              obtain ⟨rfl, hR⟩ := hp
              refine dnext (hR.sub (by repeat (first | with_reducible exact Ex.refl | (with_reducible apply Ex.take; · repeat (first | with_reducible exact Pk.here | with_reducible apply Pk.there)) | with_reducible apply Ex.drop))) ?_; intro hR0
              refine wpAnyH_done (by kernel_rfl) ?_ _; clear hR0; refine ⟨by simp, hS.defers, ?_⟩
              refine hK171 _ _ ?_
              refine Go.wpIn_seq_k ?_; intro K172 hK172
              refine Go.wpIn_region_lit ?_
              refine xA hS hR (Yld.load1 hS rfl Try.underlying23 rfl (by first | exact Rd.blk (by repeat (first | with_reducible exact Pk.here | with_reducible apply Pk.there)) (by rfl) | exact Rd.rec (by repeat (first | with_reducible exact Pk.here | with_reducible apply Pk.there)) (by intro _; rfl) (by first | omega | (rw [nods_len]; omega) | (rw [tabN_len]; omega)) rfl | exact Rd.rec0 (by repeat (first | with_reducible exact Pk.here | with_reducible apply Pk.there)) (by intro _; rfl) (by first | omega | (rw [nods_len]; omega) | (rw [tabN_len]; omega)) rfl | exact Rd.flatJ (by repeat (first | with_reducible exact Pk.here | with_reducible apply Pk.there)) (by intro _; rfl) (by first | omega | (rw [nods_len]; omega) | (rw [tabN_len]; omega)) rfl | exact Rd.flat0 (by repeat (first | with_reducible exact Pk.here | with_reducible apply Pk.there)) (by intro _; rfl) (by first | omega | (rw [nods_len]; omega) | (rw [tabN_len]; omega)) rfl)) (by decide) ?_; clear hS; intro aa hS
              refine xA hS hR (Yld.nilCheck hS rfl) (by decide) ?_; clear hS; intro aa hS
              refine xA hS hR (Yld.fieldAddr hS rfl 0 Try.underlying54 rfl rfl info52 (by decide)) (by decide) ?_; clear hS; intro aa hS
              refine xA hS hR (Yld.load1 hS rfl Try.underlying52 rfl (by first | exact Rd.blk (by repeat (first | with_reducible exact Pk.here | with_reducible apply Pk.there)) (by rfl) | exact Rd.rec (by repeat (first | with_reducible exact Pk.here | with_reducible apply Pk.there)) (by intro _; rfl) (by first | omega | (rw [nods_len]; omega) | (rw [tabN_len]; omega)) rfl | exact Rd.rec0 (by repeat (first | with_reducible exact Pk.here | with_reducible apply Pk.there)) (by intro _; rfl) (by first | omega | (rw [nods_len]; omega) | (rw [tabN_len]; omega)) rfl | exact Rd.flatJ (by repeat (first | with_reducible exact Pk.here | with_reducible apply Pk.there)) (by intro _; rfl) (by first | omega | (rw [nods_len]; omega) | (rw [tabN_len]; omega)) rfl | exact Rd.flat0 (by repeat (first | with_reducible exact Pk.here | with_reducible apply Pk.there)) (by intro _; rfl) (by first | omega | (rw [nods_len]; omega) | (rw [tabN_len]; omega)) rfl)) (by decide) ?_; clear hS; intro aa hS
              refine xA hS hR (Yld.move hS rfl) (by decide) ?_; clear hS; intro aa hS
              refine xA hS hR (Yld.move hS rfl) (by decide) ?_; clear hS; intro aa hS
              refine xA hS hR ((by first | exact Yld.indexH (sz := 3) (s) hS rfl rfl Try.underlying52 info65 (by assumption) rfl (by first | rfl | omega) (by omega) | exact Yld.indexL (sz := 3) (s) hS rfl rfl Try.underlying52 info65 (by repeat (first | with_reducible exact Pk.here | with_reducible apply Pk.there)) rfl (by first | rfl | omega) (by omega) | exact Yld.indexB (sz := 3) (s) hS rfl rfl Try.underlying52 info65 rfl (by first | rfl | omega) (by omega))) (by decide) ?_; clear hS; intro aa hS
              refine xA hS hR (Yld.fieldAddr hS rfl 2 Try.underlying65 rfl rfl info3 (by decide)) (by decide) ?_; clear hS; intro aa hS
              refine xB hS (BstoreNR hS hR rfl rfl info3 rfl (by repeat (first | with_reducible exact Pk.here | with_reducible apply Pk.there)) (by omega) ?_); clear hR; intro ww hR; refine ⟨hS.defers, ?_⟩
              refine Go.wpListIn_nil ?_
              refine hK172 _ _ ?_
              refine Go.wpIn_region_lit ?_
              refine xA hS hR (Yld.load1 hS rfl Try.underlying23 rfl (by first | exact Rd.blk (by repeat (first | with_reducible exact Pk.here | with_reducible apply Pk.there)) (by rfl) | exact Rd.rec (by repeat (first | with_reducible exact Pk.here | with_reducible apply Pk.there)) (by intro _; rfl) (by first | omega | (rw [nods_len]; omega) | (rw [tabN_len]; omega)) rfl | exact Rd.rec0 (by repeat (first | with_reducible exact Pk.here | with_reducible apply Pk.there)) (by intro _; rfl) (by first | omega | (rw [nods_len]; omega) | (rw [tabN_len]; omega)) rfl | exact Rd.flatJ (by repeat (first | with_reducible exact Pk.here | with_reducible apply Pk.there)) (by intro _; rfl) (by first | omega | (rw [nods_len]; omega) | (rw [tabN_len]; omega)) rfl | exact Rd.flat0 (by repeat (first | with_reducible exact Pk.here | with_reducible apply Pk.there)) (by intro _; rfl) (by first | omega | (rw [nods_len]; omega) | (rw [tabN_len]; omega)) rfl)) (by decide) ?_; clear hS; intro aa hS
              refine xA hS hR (Yld.nilCheck hS rfl) (by decide) ?_; clear hS; intro aa hS
              refine xA hS hR (Yld.fieldAddr hS rfl 4 Try.underlying54 rfl rfl info27 (by decide)) (by decide) ?_; clear hS; intro aa hS
              refine xA hS hR (Yld.load1 hS rfl Try.underlying27 rfl (by first | exact Rd.blk (by repeat (first | with_reducible exact Pk.here | with_reducible apply Pk.there)) (by rfl) | exact Rd.rec (by repeat (first | with_reducible exact Pk.here | with_reducible apply Pk.there)) (by intro _; rfl) (by first | omega | (rw [nods_len]; omega) | (rw [tabN_len]; omega)) rfl | exact Rd.rec0 (by repeat (first | with_reducible exact Pk.here | with_reducible apply Pk.there)) (by intro _; rfl) (by first | omega | (rw [nods_len]; omega) | (rw [tabN_len]; omega)) rfl | exact Rd.flatJ (by repeat (first | with_reducible exact Pk.here | with_reducible apply Pk.there)) (by intro _; rfl) (by first | omega | (rw [nods_len]; omega) | (rw [tabN_len]; omega)) rfl | exact Rd.flat0 (by repeat (first | with_reducible exact Pk.here | with_reducible apply Pk.there)) (by intro _; rfl) (by first | omega | (rw [nods_len]; omega) | (rw [tabN_len]; omega)) rfl)) (by decide) ?_; clear hS; intro aa hS
              refine xA hS hR (Yld.move hS rfl) (by decide) ?_; clear hS; intro aa hS
              refine xA hS hR ((by first | exact Yld.indexH (sz := 1) (rg2 tq) hS rfl rfl Try.underlying27 info3 (by assumption) rfl (by first | rfl | omega) (by omega) | exact Yld.indexL (sz := 1) (rg2 tq) hS rfl rfl Try.underlying27 info3 (by repeat (first | with_reducible exact Pk.here | with_reducible apply Pk.there)) rfl (by first | rfl | omega) (by omega) | exact Yld.indexB (sz := 1) (rg2 tq) hS rfl rfl Try.underlying27 info3 rfl (by first | rfl | omega) (by omega))) (by decide) ?_; clear hS; intro aa hS
              refine xA hS hR (Yld.load1 hS rfl Try.underlying3 rfl (Rd.rec0 (k := (rg2 tq)) (v := .int .i64 ((sz1 (rg2 tq) : Nat) : Int)) (xs := tabN n sz1) (by repeat (first | with_reducible exact Pk.here | with_reducible apply Pk.there)) (by intro _; rfl) (by rw [tabN_len]; omega) (by rw [tabN_get]; rfl))) (by decide) ?_; clear hS; intro aa hS
              refine xA hS hR ((by first | exact Yld.add64 hS rfl rfl (by omega) | exact Yld.add hS rfl rfl)) (by decide) ?_; clear hS; intro aa hS
              replace hS := hS.say (t := 147) (.int .i64 ((sz1 (rg2 tq) + 1 : Nat) : Int)) rfl (by rw [Int.natCast_add]; rfl)
              refine xA hS hR ((by first | exact Yld.indexH (sz := 1) (rg2 tq) hS rfl rfl Try.underlying27 info3 (by assumption) rfl (by first | rfl | omega) (by omega) | exact Yld.indexL (sz := 1) (rg2 tq) hS rfl rfl Try.underlying27 info3 (by repeat (first | with_reducible exact Pk.here | with_reducible apply Pk.there)) rfl (by first | rfl | omega) (by omega) | exact Yld.indexB (sz := 1) (rg2 tq) hS rfl rfl Try.underlying27 info3 rfl (by first | rfl | omega) (by omega))) (by decide) ?_; clear hS; intro aa hS
              refine xB hS (BstoreT hS hR rfl rfl info3 rfl (by repeat (first | with_reducible exact Pk.here | with_reducible apply Pk.there)) (by omega) ?_); clear hR; intro ww hR; refine ⟨hS.defers, ?_⟩
              refine Go.wpListIn_nil ?_
              refine hK168 _ _ ?_
              refine Go.wpIn_region_lit ?_
              refine xA hS hR ((by first | exact Yld.add64 hS rfl rfl (by omega) | exact Yld.add hS rfl rfl)) (by decide) ?_; clear hS; intro aa hS
              refine xA hS hR (Yld.move hS rfl) (by decide) ?_; clear hS; intro aa hS
              refine Go.wpListIn_nil ?_
              
              refine ⟨(j + 1, _, _, _), ?_, ?_, hasW (hS.le (Le.cons rfl (Le.nilapp (Le.cons rfl (Le.cons rfl (Le.cons rfl (Le.cons rfl (Le.cons rfl (Le.nil _))))))))), hR.sub (Ex.take (by repeat (first | with_reducible exact Pk.here | with_reducible apply Pk.there)) (Ex.take (by repeat (first | with_reducible exact Pk.here | with_reducible apply Pk.there)) (Ex.nilapp (by repeat (first | with_reducible exact Ex.refl | (with_reducible apply Ex.take; · repeat (first | with_reducible exact Pk.here | with_reducible apply Pk.there)) | with_reducible apply Ex.drop)))))⟩
              · dsimp only; exact ⟨by omega, mvL_next hxy (hW2.nd fq hfn) hM hjm hsj ▸ hW3.add hwv htn hsS hno⟩
              · dsimp only; omega
            · intro hg hS
              have hjm : j = M.length := by rw [cst_len] at hg; omega
              subst hjm
              refine xcondF hS rfl ?_
              refine Go.wpIn_exit ?_
              refine hK163 _ _ ?_
              refine Go.wpIn_seq_k ?_; intro K173 hK173
              refine Go.wpIn_region_lit ?_
              refine xA hS hR (Yld.assign hS rfl) (by decide) ?_; clear hS; intro aa hS
              refine Go.wpListIn_nil ?_
              refine hK173 _ _ ?_
              refine Go.wpIn_ret ?_
              repeat (first | with_reducible refine thenR ?_ | with_reducible refine blockR ?_ | with_reducible refine scopeR ?_)
              replace hR := hR.pk (r := DF D9) (by repeat (first | with_reducible exact Pk.here | with_reducible apply Pk.there))
              refine xret1 (fn := Try.f29) (e := .ret) [D9] rfl (.inl rfl) Try.results29 hS hR ?_; clear hR; intro ww hR; refine ⟨_, (.tmp rfl), ?_⟩
              have he : joinE n tq fq = 0 := by rw [joinE, if_neg (by omega)]
              refine ⟨by rw [he], ?_⟩
              exact Sep.linksAI (TL := 54) (TN := 65) (TI := 3) (b := b) hI.2 (by rw [joinS, he, if_pos rfl, Int.toNat_natCast, Int.toNat_natCast, ← hfin, ← mvL_done, hM]) (hR.sub (by repeat (first | with_reducible exact Ex.refl | (with_reducible apply Ex.take; · repeat (first | with_reducible exact Pk.here | with_reducible apply Pk.there)) | with_reducible apply Ex.drop)))
          refine Go.wpIn_block ?_
          refine xloopI (X := Unit) [(3, _), (7, _), (8, _), (9, _), (10, _)] (fun x => []) (fun x => []) _ (fun x => True) (fun x => 0) () trivial (hS.le (Le.nilapp (Le.cons rfl (Le.cons rfl (Le.cons rfl (Le.cons rfl (Le.cons rfl (Le.nil _)))))))) hR ?_
          clear hS hR; rintro x0 aa ww hI hS hR; dsimp only [List.cons_append, List.nil_append] at hI hS hR
          refine Go.wpIn_block ?_
          refine Go.wpIn_seq_k ?_; intro K175 hK175
          refine Go.wpIn_seq_k ?_; intro K176 hK176
          refine Go.wpIn_region_lit ?_
          refine xA hS hR (Yld.load1 hS rfl Try.underlying23 rfl (by first | exact Rd.blk (by repeat (first | with_reducible exact Pk.here | with_reducible apply Pk.there)) (by rfl) | exact Rd.rec (by repeat (first | with_reducible exact Pk.here | with_reducible apply Pk.there)) (by intro _; rfl) (by first | omega | (rw [nods_len]; omega) | (rw [tabN_len]; omega)) rfl | exact Rd.rec0 (by repeat (first | with_reducible exact Pk.here | with_reducible apply Pk.there)) (by intro _; rfl) (by first | omega | (rw [nods_len]; omega) | (rw [tabN_len]; omega)) rfl | exact Rd.flatJ (by repeat (first | with_reducible exact Pk.here | with_reducible apply Pk.there)) (by intro _; rfl) (by first | omega | (rw [nods_len]; omega) | (rw [tabN_len]; omega)) rfl | exact Rd.flat0 (by repeat (first | with_reducible exact Pk.here | with_reducible apply Pk.there)) (by intro _; rfl) (by first | omega | (rw [nods_len]; omega) | (rw [tabN_len]; omega)) rfl)) (by decide) ?_; clear hS; intro aa hS
          refine xA hS hR (Yld.load1 hS rfl Try.underlying3 rfl (by first | exact Rd.blk (by repeat (first | with_reducible exact Pk.here | with_reducible apply Pk.there)) (by rfl) | exact Rd.rec (by repeat (first | with_reducible exact Pk.here | with_reducible apply Pk.there)) (by intro _; rfl) (by first | omega | (rw [nods_len]; omega) | (rw [tabN_len]; omega)) rfl | exact Rd.rec0 (by repeat (first | with_reducible exact Pk.here | with_reducible apply Pk.there)) (by intro _; rfl) (by first | omega | (rw [nods_len]; omega) | (rw [tabN_len]; omega)) rfl | exact Rd.flatJ (by repeat (first | with_reducible exact Pk.here | with_reducible apply Pk.there)) (by intro _; rfl) (by first | omega | (rw [nods_len]; omega) | (rw [tabN_len]; omega)) rfl | exact Rd.flat0 (by repeat (first | with_reducible exact Pk.here | with_reducible apply Pk.there)) (by intro _; rfl) (by first | omega | (rw [nods_len]; omega) | (rw [tabN_len]; omega)) rfl)) (by decide) ?_; clear hS; intro aa hS
          refine xA hS hR (Yld.move hS rfl) (by decide) ?_; clear hS; intro aa hS
          refine xA hS hR ((by first | exact Yld.sub64 hS rfl rfl (by omega) | exact Yld.sub hS rfl rfl)) (by decide) ?_; clear hS; intro aa hS
          replace hS := hS.say (t := 96) (.int .i64 ((1 - wv : Nat) : Int)) rfl (by rw [show ((1 - wv : Nat) : Int) = 1 - (wv : Int) from by omega])
          refine xB hS (Bcall hS rfl Try.call32 (lwalk_ok hR) (by decide) ?_); clear hS; intro aa ww vv hS hp; refine ⟨hS.defers, ?_⟩
          clear hR
          obtain ⟨p1, p2, p3, rfl, hR⟩ := hp
          refine Go.wpListIn_nil ?_
          refine hK176 _ _ ?_
          refine Go.wpIn_block ?_
          replace hS := hS.le (T := [(3, _), (7, _), (8, _), (9, _), (10, _), (93, _), (94, _), (95, _), (96, _), (97, _)]) (Le.cons rfl (Le.cons rfl (Le.cons rfl (Le.cons rfl (Le.cons rfl (Le.cons rfl (Le.cons rfl (Le.cons rfl (Le.cons rfl (Le.cons rfl (Le.nil _)))))))))))
          replace hR := hR.slsNil (T := 3) (sz := 1)
          replace hR := hR.pk (r := blk bb10 _ _) (by repeat (first | with_reducible exact Pk.here | with_reducible apply Pk.there))
          change Sep (blk bb10 [.slice none ([] : List Int).length 0] 27 :: sls none ([] : List Int).length 0 3 1 (([] : List Int).flatMap e1) :: _) _ at hR
          refine yrange hS hR rfl Try.call45 ?_
          intro D177 L177 lr ww hlr hR
          have hround : ∀ (Y : List HP) (i : Nat) (w : World), i < M.length → Sep ((fun i : Nat => box (fun x : List Int × Option Addr × Nat => x.1 = cst (M.take i)) (fun x => [lr .ready none, blk b [.slice r1 (S + n) c1, .int .i64 (S : Int), .slice r2 n c2, .slice r3 n c3, .slice r4 n c4] 54, sls r1 (S + n) c1 65 3 ((nods (S + n) P R).flatMap eL), sls r4 n c4 3 1 ((tabN n sz).flatMap e1), blk bb9 [.int .i64 ((rg2 fq : Nat) : Int)] 3, blk bb3 [.pointer (some ⟨b, 0, none⟩)] 23, blk bb10 [.slice x.2.1 x.1.length x.2.2] 27, sls x.2.1 x.1.length x.2.2 3 1 (x.1.flatMap e1)])) i :: Y) w → YieldR Try.prog L177 [.int .i64 (((M[i]?.getD (S + rg2 fq)) : Nat) : Int)] w (fun zb zw => Sep ((bif zb then (fun i : Nat => box (fun x : List Int × Option Addr × Nat => x.1 = cst (M.take i)) (fun x => [lr .ready none, blk b [.slice r1 (S + n) c1, .int .i64 (S : Int), .slice r2 n c2, .slice r3 n c3, .slice r4 n c4] 54, sls r1 (S + n) c1 65 3 ((nods (S + n) P R).flatMap eL), sls r4 n c4 3 1 ((tabN n sz).flatMap e1), blk bb9 [.int .i64 ((rg2 fq : Nat) : Int)] 3, blk bb3 [.pointer (some ⟨b, 0, none⟩)] 23, blk bb10 [.slice x.2.1 x.1.length x.2.2] 27, sls x.2.1 x.1.length x.2.2 3 1 (x.1.flatMap e1)])) (i + 1) else (box (fun x : List Int × Option Addr × Nat => x.1 = cst M) (fun x => [lr .done (some (Code.exit 1)), blk b [.slice r1 (S + n) c1, .int .i64 (S : Int), .slice r2 n c2, .slice r3 n c3, .slice r4 n c4] 54, sls r1 (S + n) c1 65 3 ((nods (S + n) P R).flatMap eL), sls r4 n c4 3 1 ((tabN n sz).flatMap e1), blk bb9 [.int .i64 ((rg2 fq : Nat) : Int)] 3, blk bb3 [.pointer (some ⟨b, 0, none⟩)] 23, blk bb10 [.slice x.2.1 x.1.length x.2.2] 27, sls x.2.1 x.1.length x.2.2 3 1 (x.1.flatMap e1)]))) :: Y) zw) := by
            intro Y i ww hi hR
            obtain ⟨⟨xs, r0, c0⟩, hI, hR⟩ := hR.boxE
            try dsimp only [List.cons_append, List.nil_append] at hI hR
            refine yround hlr hR rfl rfl ?_; clear hS; intro aa hS; dsimp only [rslots, List.zip, List.zipWith] at hS
            have hxl : xs.length = i := by rw [hI, cst_len, List.length_take]; omega
            refine Go.wpIn_region_lit ?_
            refine xA hS hR (Yld.assign hS rfl) (by decide) ?_; clear hS; intro aa hS
            refine Go.wpListIn_nil ?_
            refine ⟨_, _, rfl, (hR.pk (r := lr _ _) (by repeat (first | with_reducible exact Pk.here | with_reducible apply Pk.there))), ?_⟩; clear hR; intro ww hR
            refine Go.wpIn_block ?_
            refine Go.wpIn_seq_k ?_; intro K178 hK178
            refine Go.wpIn_region_lit ?_
            refine xA hS hR (Yld.load1 hS rfl Try.underlying27 rfl (by first | exact Rd.blk (by repeat (first | with_reducible exact Pk.here | with_reducible apply Pk.there)) (by rfl) | exact Rd.rec (by repeat (first | with_reducible exact Pk.here | with_reducible apply Pk.there)) (by intro _; rfl) (by first | omega | (rw [nods_len]; omega) | (rw [tabN_len]; omega)) rfl | exact Rd.rec0 (by repeat (first | with_reducible exact Pk.here | with_reducible apply Pk.there)) (by intro _; rfl) (by first | omega | (rw [nods_len]; omega) | (rw [tabN_len]; omega)) rfl | exact Rd.flatJ (by repeat (first | with_reducible exact Pk.here | with_reducible apply Pk.there)) (by intro _; rfl) (by first | omega | (rw [nods_len]; omega) | (rw [tabN_len]; omega)) rfl | exact Rd.flat0 (by repeat (first | with_reducible exact Pk.here | with_reducible apply Pk.there)) (by intro _; rfl) (by first | omega | (rw [nods_len]; omega) | (rw [tabN_len]; omega)) rfl)) (by decide) ?_; clear hS; intro aa hS
            refine xA hS hR (Yld.move hS rfl) (by decide) ?_; clear hS; intro aa hS
            refine xB hS (BbuildSlice hS hR rfl (bls27_1_0 _) (by decide) ?_); clear hS hR; intro aa ww bb101 hS hR; refine ⟨hS.defers, ?_⟩
            refine xB hS (BappendR (sz := 1) hS hR rfl rfl Try.underlying27 info3 rfl rfl (by rfl) (by repeat (first | with_reducible exact Pk.here | with_reducible apply Pk.there)) (XC.one ((((M[i]?.getD (S + rg2 fq)) : Nat) : Int)) (by repeat (first | with_reducible exact Pk.here | with_reducible apply Pk.there)) (by rfl) rfl) (by intro _; rfl) (by show (_ + _) * 8 ≤ _; first | omega | (rw [nods_len]; omega) | (rw [tabN_len]; omega)) (by first | omega | (rw [nods_len]; omega) | (rw [tabN_len]; omega)) (by first | rfl | (simp; done) | (simp; omega)) (by decide) ?_); clear hS hR; intro aa ww r102 c102 hS hR; refine ⟨hS.defers, ?_⟩
            refine xB hS (Bstore hS hR rfl rfl (by rfl) info27 (by rfl) (by repeat (first | with_reducible exact Pk.here | with_reducible apply Pk.there)) (by rfl) (Nat.le_of_ble_eq_true rfl) ?_); clear hR; intro ww hR; refine ⟨hS.defers, ?_⟩
            refine Go.wpListIn_nil ?_
            refine hK178 _ _ ?_
            refine Go.wpIn_seq_k ?_; intro K179 hK179
            refine xdrawn (by kernel_rfl) (by kernel_rfl) hS hR Ex.refl ?_; clear hR; intro ww hR hR0
            refine dA 0 rfl (by kernel_rfl) (by kernel_rfl) (by kernel_rfl) (fun _ _ _ h => h) hS hR0 (Yld.load1 hS rfl Try.underlying27 rfl (by first | exact Rd.blk (by repeat (first | with_reducible exact Pk.here | with_reducible apply Pk.there)) (by rfl) | exact Rd.rec (by repeat (first | with_reducible exact Pk.here | with_reducible apply Pk.there)) (by intro _; rfl) (by first | omega | (rw [nods_len]; omega) | (rw [tabN_len]; omega)) rfl | exact Rd.rec0 (by repeat (first | with_reducible exact Pk.here | with_reducible apply Pk.there)) (by intro _; rfl) (by first | omega | (rw [nods_len]; omega) | (rw [tabN_len]; omega)) rfl | exact Rd.flatJ (by repeat (first | with_reducible exact Pk.here | with_reducible apply Pk.there)) (by intro _; rfl) (by first | omega | (rw [nods_len]; omega) | (rw [tabN_len]; omega)) rfl | exact Rd.flat0 (by repeat (first | with_reducible exact Pk.here | with_reducible apply Pk.there)) (by intro _; rfl) (by first | omega | (rw [nods_len]; omega) | (rw [tabN_len]; omega)) rfl)) (by decide) ?_; clear hS; intro aa hS
            refine dA 1 rfl (by kernel_rfl) (by kernel_rfl) (by kernel_rfl) (fun _ _ _ h => h) hS hR0 (Yld.len hS rfl Try.underlying27) (by decide) ?_; clear hS; intro aa hS
            refine dA 2 rfl (by kernel_rfl) (by kernel_rfl) (by kernel_rfl) (fun _ _ _ h => h) hS hR0 (Yld.load1 hS rfl Try.underlying23 rfl (by first | exact Rd.blk (by repeat (first | with_reducible exact Pk.here | with_reducible apply Pk.there)) (by rfl) | exact Rd.rec (by repeat (first | with_reducible exact Pk.here | with_reducible apply Pk.there)) (by intro _; rfl) (by first | omega | (rw [nods_len]; omega) | (rw [tabN_len]; omega)) rfl | exact Rd.rec0 (by repeat (first | with_reducible exact Pk.here | with_reducible apply Pk.there)) (by intro _; rfl) (by first | omega | (rw [nods_len]; omega) | (rw [tabN_len]; omega)) rfl | exact Rd.flatJ (by repeat (first | with_reducible exact Pk.here | with_reducible apply Pk.there)) (by intro _; rfl) (by first | omega | (rw [nods_len]; omega) | (rw [tabN_len]; omega)) rfl | exact Rd.flat0 (by repeat (first | with_reducible exact Pk.here | with_reducible apply Pk.there)) (by intro _; rfl) (by first | omega | (rw [nods_len]; omega) | (rw [tabN_len]; omega)) rfl)) (by decide) ?_; clear hS; intro aa hS
            refine dA 3 rfl (by kernel_rfl) (by kernel_rfl) (by kernel_rfl) (fun _ _ _ h => h) hS hR0 (Yld.nilCheck hS rfl) (by decide) ?_; clear hS; intro aa hS
            refine dA 4 rfl (by kernel_rfl) (by kernel_rfl) (by kernel_rfl) (fun _ _ _ h => h) hS hR0 (Yld.fieldAddr hS rfl 4 Try.underlying54 rfl rfl info27 (by decide)) (by decide) ?_; clear hS; intro aa hS
            refine dA 5 rfl (by kernel_rfl) (by kernel_rfl) (by kernel_rfl) (fun _ _ _ h => h) hS hR0 (Yld.load1 hS rfl Try.underlying27 rfl (by first | exact Rd.blk (by repeat (first | with_reducible exact Pk.here | with_reducible apply Pk.there)) (by rfl) | exact Rd.rec (by repeat (first | with_reducible exact Pk.here | with_reducible apply Pk.there)) (by intro _; rfl) (by first | omega | (rw [nods_len]; omega) | (rw [tabN_len]; omega)) rfl | exact Rd.rec0 (by repeat (first | with_reducible exact Pk.here | with_reducible apply Pk.there)) (by intro _; rfl) (by first | omega | (rw [nods_len]; omega) | (rw [tabN_len]; omega)) rfl | exact Rd.flatJ (by repeat (first | with_reducible exact Pk.here | with_reducible apply Pk.there)) (by intro _; rfl) (by first | omega | (rw [nods_len]; omega) | (rw [tabN_len]; omega)) rfl | exact Rd.flat0 (by repeat (first | with_reducible exact Pk.here | with_reducible apply Pk.there)) (by intro _; rfl) (by first | omega | (rw [nods_len]; omega) | (rw [tabN_len]; omega)) rfl)) (by decide) ?_; clear hS; intro aa hS
            refine dA 6 rfl (by kernel_rfl) (by kernel_rfl) (by kernel_rfl) (fun _ _ _ h => h) hS hR0 (Yld.load1 hS rfl Try.underlying3 rfl (by first | exact Rd.blk (by repeat (first | with_reducible exact Pk.here | with_reducible apply Pk.there)) (by rfl) | exact Rd.rec (by repeat (first | with_reducible exact Pk.here | with_reducible apply Pk.there)) (by intro _; rfl) (by first | omega | (rw [nods_len]; omega) | (rw [tabN_len]; omega)) rfl | exact Rd.rec0 (by repeat (first | with_reducible exact Pk.here | with_reducible apply Pk.there)) (by intro _; rfl) (by first | omega | (rw [nods_len]; omega) | (rw [tabN_len]; omega)) rfl | exact Rd.flatJ (by repeat (first | with_reducible exact Pk.here | with_reducible apply Pk.there)) (by intro _; rfl) (by first | omega | (rw [nods_len]; omega) | (rw [tabN_len]; omega)) rfl | exact Rd.flat0 (by repeat (first | with_reducible exact Pk.here | with_reducible apply Pk.there)) (by intro _; rfl) (by first | omega | (rw [nods_len]; omega) | (rw [tabN_len]; omega)) rfl)) (by decide) ?_; clear hS; intro aa hS
            refine dA 7 rfl (by kernel_rfl) (by kernel_rfl) (by kernel_rfl) (fun _ _ _ h => h) hS hR0 ((by first | exact Yld.indexH (sz := 1) (rg2 fq) hS rfl rfl Try.underlying27 info3 (by assumption) rfl (by first | rfl | omega) (by omega) | exact Yld.indexL (sz := 1) (rg2 fq) hS rfl rfl Try.underlying27 info3 (by repeat (first | with_reducible exact Pk.here | with_reducible apply Pk.there)) rfl (by first | rfl | omega) (by omega) | exact Yld.indexB (sz := 1) (rg2 fq) hS rfl rfl Try.underlying27 info3 rfl (by first | rfl | omega) (by omega))) (by decide) ?_; clear hS; intro aa hS
            refine dA 8 rfl (by kernel_rfl) (by kernel_rfl) (by kernel_rfl) (fun _ _ _ h => h) hS hR0 (Yld.load1 hS rfl Try.underlying3 rfl (Rd.rec0 (k := (rg2 fq)) (v := .int .i64 ((sz (rg2 fq) : Nat) : Int)) (xs := tabN n sz) (by repeat (first | with_reducible exact Pk.here | with_reducible apply Pk.there)) (by intro _; rfl) (by rw [tabN_len]; omega) (by rw [tabN_get]; rfl))) (by decide) ?_; clear hS; intro aa hS
            refine dA 9 rfl (by kernel_rfl) (by kernel_rfl) (by kernel_rfl) (fun _ _ _ h => h) hS hR0 (Yld.eql hS rfl rfl) (by decide) ?_; clear hS; intro aa hS
            refine wpAnyH_done (by kernel_rfl) ?_ _; clear hR0; refine ⟨by simp, hS.defers, ?_⟩
            refine hK179 _ _ ?_
            refine hS.splitB (t := 112) rfl ?_ ?_ <;> clear hS
            · intro hg hS
              have hxl2 : i + 1 = M.length := by rw [List.length_append, List.length_singleton] at hg; omega
              refine xcondT hS rfl ?_
              refine Go.wpIn_exit ?_
              repeat (first | with_reducible refine thenR ?_ | with_reducible refine blockR ?_ | with_reducible refine scopeR ?_ | with_reducible refine thenX ?_ | with_reducible refine blockX ?_ | with_reducible refine blockY (by rfl) ?_)
              refine ⟨_, (hR.pk (r := lr _ _) (by repeat (first | with_reducible exact Pk.here | with_reducible apply Pk.there))), ?_⟩; clear hR; intro ww hR
              try dsimp only [lay, List.set] at hR
              exact Sep.boxI (xs ++ [(((M[i]?.getD (S + rg2 fq)) : Nat) : Int)], _, _) (by dsimp only; rw [hI, cst_next hi, hxl2, List.take_of_length_le (Nat.le_refl _)]) (by dsimp only [List.cons_append, List.nil_append]; exact hR.sub (by repeat (first | with_reducible exact Ex.refl | (with_reducible apply Ex.take; · repeat (first | with_reducible exact Pk.here | with_reducible apply Pk.there)) | with_reducible apply Ex.drop)))
            · intro hg hS
              refine xcondF hS rfl ?_
              refine Go.wpIn_skip ?_
              repeat (first | with_reducible refine thenR ?_ | with_reducible refine blockR ?_ | with_reducible refine scopeR ?_ | with_reducible refine thenX ?_ | with_reducible refine blockX ?_ | with_reducible refine blockY (by rfl) ?_)
              refine ⟨_, (hR.pk (r := lr _ _) (by repeat (first | with_reducible exact Pk.here | with_reducible apply Pk.there))), ?_⟩; clear hR; intro ww hR
              try dsimp only [lay, List.set] at hR
              exact Sep.boxI (xs ++ [(((M[i]?.getD (S + rg2 fq)) : Nat) : Int)], _, _) (by dsimp only; rw [hI]; exact cst_next hi) (by dsimp only [List.cons_append, List.nil_append]; exact hR.sub (by repeat (first | with_reducible exact Ex.refl | (with_reducible apply Ex.take; · repeat (first | with_reducible exact Pk.here | with_reducible apply Pk.there)) | with_reducible apply Ex.drop)))
          replace hR := Sep.boxI (X := List Int × Option Addr × Nat) (C := fun x : List Int × Option Addr × Nat => x.1 = cst (M.take 0)) (L := fun x : List Int × Option Addr × Nat => [lr .ready none, blk b [.slice r1 (S + n) c1, .int .i64 (S : Int), .slice r2 n c2, .slice r3 n c3, .slice r4 n c4] 54, sls r1 (S + n) c1 65 3 ((nods (S + n) P R).flatMap eL), sls r4 n c4 3 1 ((tabN n sz).flatMap e1), blk bb9 [.int .i64 ((rg2 fq : Nat) : Int)] 3, blk bb3 [.pointer (some ⟨b, 0, none⟩)] 23, blk bb10 [.slice x.2.1 x.1.length x.2.2] 27, sls x.2.1 x.1.length x.2.2 3 1 (x.1.flatMap e1)]) ([], none, 0) (rfl) (by dsimp only [List.cons_append, List.nil_append]; exact hR.sub (by repeat (first | with_reducible exact Ex.refl | (with_reducible apply Ex.take; · repeat (first | with_reducible exact Pk.here | with_reducible apply Pk.there)) | with_reducible apply Ex.drop)))
          refine CallR.mono (walk_it (J := (fun i : Nat => box (fun x : List Int × Option Addr × Nat => x.1 = cst (M.take i)) (fun x => [lr .ready none, blk b [.slice r1 (S + n) c1, .int .i64 (S : Int), .slice r2 n c2, .slice r3 n c3, .slice r4 n c4] 54, sls r1 (S + n) c1 65 3 ((nods (S + n) P R).flatMap eL), sls r4 n c4 3 1 ((tabN n sz).flatMap e1), blk bb9 [.int .i64 ((rg2 fq : Nat) : Int)] 3, blk bb3 [.pointer (some ⟨b, 0, none⟩)] 23, blk bb10 [.slice x.2.1 x.1.length x.2.2] 27, sls x.2.1 x.1.length x.2.2 3 1 (x.1.flatMap e1)]))) (E := (box (fun x : List Int × Option Addr × Nat => x.1 = cst M) (fun x => [lr .done (some (Code.exit 1)), blk b [.slice r1 (S + n) c1, .int .i64 (S : Int), .slice r2 n c2, .slice r3 n c3, .slice r4 n c4] 54, sls r1 (S + n) c1 65 3 ((nods (S + n) P R).flatMap eL), sls r4 n c4 3 1 ((tabN n sz).flatMap e1), blk bb9 [.int .i64 ((rg2 fq : Nat) : Int)] 3, blk bb3 [.pointer (some ⟨b, 0, none⟩)] 23, blk bb10 [.slice x.2.1 x.1.length x.2.2] 27, sls x.2.1 x.1.length x.2.2 3 1 (x.1.flatMap e1)]))) (w9 := 1 - wv) (n := n) ((((hR.pk (r := blk p3 _ _) (by repeat (first | with_reducible exact Pk.here | with_reducible apply Pk.there))).pk (r := blk p2 _ _) (by repeat (first | with_reducible exact Pk.here | with_reducible apply Pk.there))).pk (r := blk p1 _ _) (by repeat (first | with_reducible exact Pk.here | with_reducible apply Pk.there))).pk (r := box _ _) (by repeat (first | with_reducible exact Pk.here | with_reducible apply Pk.there))) hb1 (by omega) (by omega) hm0 hms hmb hme (fun i Y w h => lens h) hround) ?_; clear hR; rintro vv ww (hR | hR)
          ·
            obtain ⟨⟨xs, r0, c0⟩, hI, hR⟩ := hR.boxE
            try dsimp only [List.cons_append, List.nil_append] at hI hR
            refine ⟨.ready, none, _, by simp, hR, ?_⟩; clear hR; intro ww hR
            rw [List.take_of_length_le (Nat.le_refl _)] at hI
            refine hK175 _ _ ?_
            refine Go.wpIn_exit ?_
            exact tail162 D177 xs r0 c0 hI _ _ (hS.le (Le.cons rfl (Le.cons rfl (Le.cons rfl (Le.cons rfl (Le.nil _)))))) (hR.sub (by repeat (first | with_reducible exact Ex.refl | (with_reducible apply Ex.take; · repeat (first | with_reducible exact Pk.here | with_reducible apply Pk.there)) | with_reducible apply Ex.drop)))
          ·
            obtain ⟨⟨xs, r0, c0⟩, hI, hR⟩ := hR.boxE
            try dsimp only [List.cons_append, List.nil_append] at hI hR
            refine ⟨.done, some _, _, by simp, hR, ?_⟩; clear hR; intro ww hR
            refine Go.wpIn_exit ?_
            exact tail162 D177 xs r0 c0 hI _ _ (hS.le (Le.cons rfl (Le.cons rfl (Le.cons rfl (Le.cons rfl (Le.nil _)))))) (hR.sub (by repeat (first | with_reducible exact Ex.refl | (with_reducible apply Ex.take; · repeat (first | with_reducible exact Pk.here | with_reducible apply Pk.there)) | with_reducible apply Ex.drop)))
        refine Go.wpIn_seq_k ?_; intro K180 hK180
        refine xdrawn (by kernel_rfl) (by kernel_rfl) hS hR Ex.refl ?_; clear hR; intro ww hR hR0
        refine dA 0 rfl (by kernel_rfl) (by kernel_rfl) (by kernel_rfl) (fun _ _ _ h => h) hS hR0 (Yld.load1 hS rfl Try.underlying23 rfl (by first | exact Rd.blk (by repeat (first | with_reducible exact Pk.here | with_reducible apply Pk.there)) (by rfl) | exact Rd.rec (by repeat (first | with_reducible exact Pk.here | with_reducible apply Pk.there)) (by intro _; rfl) (by first | omega | (rw [nods_len]; omega) | (rw [tabN_len]; omega)) rfl | exact Rd.rec0 (by repeat (first | with_reducible exact Pk.here | with_reducible apply Pk.there)) (by intro _; rfl) (by first | omega | (rw [nods_len]; omega) | (rw [tabN_len]; omega)) rfl | exact Rd.flatJ (by repeat (first | with_reducible exact Pk.here | with_reducible apply Pk.there)) (by intro _; rfl) (by first | omega | (rw [nods_len]; omega) | (rw [tabN_len]; omega)) rfl | exact Rd.flat0 (by repeat (first | with_reducible exact Pk.here | with_reducible apply Pk.there)) (by intro _; rfl) (by first | omega | (rw [nods_len]; omega) | (rw [tabN_len]; omega)) rfl)) (by decide) ?_; clear hS; intro aa hS
        refine dA 1 rfl (by kernel_rfl) (by kernel_rfl) (by kernel_rfl) (fun _ _ _ h => h) hS hR0 (Yld.nilCheck hS rfl) (by decide) ?_; clear hS; intro aa hS
        refine dA 2 rfl (by kernel_rfl) (by kernel_rfl) (by kernel_rfl) (fun _ _ _ h => h) hS hR0 (Yld.fieldAddr hS rfl 4 Try.underlying54 rfl rfl info27 (by decide)) (by decide) ?_; clear hS; intro aa hS
        refine dA 3 rfl (by kernel_rfl) (by kernel_rfl) (by kernel_rfl) (fun _ _ _ h => h) hS hR0 (Yld.load1 hS rfl Try.underlying27 rfl (by first | exact Rd.blk (by repeat (first | with_reducible exact Pk.here | with_reducible apply Pk.there)) (by rfl) | exact Rd.rec (by repeat (first | with_reducible exact Pk.here | with_reducible apply Pk.there)) (by intro _; rfl) (by first | omega | (rw [nods_len]; omega) | (rw [tabN_len]; omega)) rfl | exact Rd.rec0 (by repeat (first | with_reducible exact Pk.here | with_reducible apply Pk.there)) (by intro _; rfl) (by first | omega | (rw [nods_len]; omega) | (rw [tabN_len]; omega)) rfl | exact Rd.flatJ (by repeat (first | with_reducible exact Pk.here | with_reducible apply Pk.there)) (by intro _; rfl) (by first | omega | (rw [nods_len]; omega) | (rw [tabN_len]; omega)) rfl | exact Rd.flat0 (by repeat (first | with_reducible exact Pk.here | with_reducible apply Pk.there)) (by intro _; rfl) (by first | omega | (rw [nods_len]; omega) | (rw [tabN_len]; omega)) rfl)) (by decide) ?_; clear hS; intro aa hS
        refine dA 4 rfl (by kernel_rfl) (by kernel_rfl) (by kernel_rfl) (fun _ _ _ h => h) hS hR0 (Yld.move hS rfl) (by decide) ?_; clear hS; intro aa hS
        refine dA 5 rfl (by kernel_rfl) (by kernel_rfl) (by kernel_rfl) (fun _ _ _ h => h) hS hR0 ((by first | exact Yld.indexH (sz := 1) (rg tq) hS rfl rfl Try.underlying27 info3 (by assumption) rfl (by first | rfl | omega) (by omega) | exact Yld.indexL (sz := 1) (rg tq) hS rfl rfl Try.underlying27 info3 (by repeat (first | with_reducible exact Pk.here | with_reducible apply Pk.there)) rfl (by first | rfl | omega) (by omega) | exact Yld.indexB (sz := 1) (rg tq) hS rfl rfl Try.underlying27 info3 rfl (by first | rfl | omega) (by omega))) (by decide) ?_; clear hS; intro aa hS
        refine dA 6 rfl (by kernel_rfl) (by kernel_rfl) (by kernel_rfl) (fun _ _ _ h => h) hS hR0 (Yld.load1 hS rfl Try.underlying3 rfl (Rd.rec0 (k := (rg tq)) (v := .int .i64 ((sz (rg tq) : Nat) : Int)) (xs := tabN n sz) (by repeat (first | with_reducible exact Pk.here | with_reducible apply Pk.there)) (by intro _; rfl) (by rw [tabN_len]; omega) (by rw [tabN_get]; rfl))) (by decide) ?_; clear hS; intro aa hS
        refine dA 7 rfl (by kernel_rfl) (by kernel_rfl) (by kernel_rfl) (fun _ _ _ h => h) hS hR0 (Yld.load1 hS rfl Try.underlying23 rfl (by first | exact Rd.blk (by repeat (first | with_reducible exact Pk.here | with_reducible apply Pk.there)) (by rfl) | exact Rd.rec (by repeat (first | with_reducible exact Pk.here | with_reducible apply Pk.there)) (by intro _; rfl) (by first | omega | (rw [nods_len]; omega) | (rw [tabN_len]; omega)) rfl | exact Rd.rec0 (by repeat (first | with_reducible exact Pk.here | with_reducible apply Pk.there)) (by intro _; rfl) (by first | omega | (rw [nods_len]; omega) | (rw [tabN_len]; omega)) rfl | exact Rd.flatJ (by repeat (first | with_reducible exact Pk.here | with_reducible apply Pk.there)) (by intro _; rfl) (by first | omega | (rw [nods_len]; omega) | (rw [tabN_len]; omega)) rfl | exact Rd.flat0 (by repeat (first | with_reducible exact Pk.here | with_reducible apply Pk.there)) (by intro _; rfl) (by first | omega | (rw [nods_len]; omega) | (rw [tabN_len]; omega)) rfl)) (by decide) ?_; clear hS; intro aa hS
        refine dA 8 rfl (by kernel_rfl) (by kernel_rfl) (by kernel_rfl) (fun _ _ _ h => h) hS hR0 (Yld.nilCheck hS rfl) (by decide) ?_; clear hS; intro aa hS
        refine dA 9 rfl (by kernel_rfl) (by kernel_rfl) (by kernel_rfl) (fun _ _ _ h => h) hS hR0 (Yld.fieldAddr hS rfl 4 Try.underlying54 rfl rfl info27 (by decide)) (by decide) ?_; clear hS; intro aa hS
        refine dA 10 rfl (by kernel_rfl) (by kernel_rfl) (by kernel_rfl) (fun _ _ _ h => h) hS hR0 (Yld.load1 hS rfl Try.underlying27 rfl (by first | exact Rd.blk (by repeat (first | with_reducible exact Pk.here | with_reducible apply Pk.there)) (by rfl) | exact Rd.rec (by repeat (first | with_reducible exact Pk.here | with_reducible apply Pk.there)) (by intro _; rfl) (by first | omega | (rw [nods_len]; omega) | (rw [tabN_len]; omega)) rfl | exact Rd.rec0 (by repeat (first | with_reducible exact Pk.here | with_reducible apply Pk.there)) (by intro _; rfl) (by first | omega | (rw [nods_len]; omega) | (rw [tabN_len]; omega)) rfl | exact Rd.flatJ (by repeat (first | with_reducible exact Pk.here | with_reducible apply Pk.there)) (by intro _; rfl) (by first | omega | (rw [nods_len]; omega) | (rw [tabN_len]; omega)) rfl | exact Rd.flat0 (by repeat (first | with_reducible exact Pk.here | with_reducible apply Pk.there)) (by intro _; rfl) (by first | omega | (rw [nods_len]; omega) | (rw [tabN_len]; omega)) rfl)) (by decide) ?_; clear hS; intro aa hS
        refine dA 11 rfl (by kernel_rfl) (by kernel_rfl) (by kernel_rfl) (fun _ _ _ h => h) hS hR0 (Yld.load1 hS rfl Try.underlying3 rfl (by first | exact Rd.blk (by repeat (first | with_reducible exact Pk.here | with_reducible apply Pk.there)) (by rfl) | exact Rd.rec (by repeat (first | with_reducible exact Pk.here | with_reducible apply Pk.there)) (by intro _; rfl) (by first | omega | (rw [nods_len]; omega) | (rw [tabN_len]; omega)) rfl | exact Rd.rec0 (by repeat (first | with_reducible exact Pk.here | with_reducible apply Pk.there)) (by intro _; rfl) (by first | omega | (rw [nods_len]; omega) | (rw [tabN_len]; omega)) rfl | exact Rd.flatJ (by repeat (first | with_reducible exact Pk.here | with_reducible apply Pk.there)) (by intro _; rfl) (by first | omega | (rw [nods_len]; omega) | (rw [tabN_len]; omega)) rfl | exact Rd.flat0 (by repeat (first | with_reducible exact Pk.here | with_reducible apply Pk.there)) (by intro _; rfl) (by first | omega | (rw [nods_len]; omega) | (rw [tabN_len]; omega)) rfl)) (by decide) ?_; clear hS; intro aa hS
        refine dA 12 rfl (by kernel_rfl) (by kernel_rfl) (by kernel_rfl) (fun _ _ _ h => h) hS hR0 ((by first | exact Yld.indexH (sz := 1) (rg fq) hS rfl rfl Try.underlying27 info3 (by assumption) rfl (by first | rfl | omega) (by omega) | exact Yld.indexL (sz := 1) (rg fq) hS rfl rfl Try.underlying27 info3 (by repeat (first | with_reducible exact Pk.here | with_reducible apply Pk.there)) rfl (by first | rfl | omega) (by omega) | exact Yld.indexB (sz := 1) (rg fq) hS rfl rfl Try.underlying27 info3 rfl (by first | rfl | omega) (by omega))) (by decide) ?_; clear hS; intro aa hS
        refine dA 13 rfl (by kernel_rfl) (by kernel_rfl) (by kernel_rfl) (fun _ _ _ h => h) hS hR0 (Yld.load1 hS rfl Try.underlying3 rfl (Rd.rec0 (k := (rg fq)) (v := .int .i64 ((sz (rg fq) : Nat) : Int)) (xs := tabN n sz) (by repeat (first | with_reducible exact Pk.here | with_reducible apply Pk.there)) (by intro _; rfl) (by rw [tabN_len]; omega) (by rw [tabN_get]; rfl))) (by decide) ?_; clear hS; intro aa hS
        refine dA 14 rfl (by kernel_rfl) (by kernel_rfl) (by kernel_rfl) (fun _ _ _ h => h) hS hR0 (Yld.lss hS rfl rfl) (by decide) ?_; clear hS; intro aa hS
        refine wpAnyH_done (by kernel_rfl) ?_ _; clear hR0; refine ⟨by simp, hS.defers, ?_⟩
        refine hK180 _ _ ?_
        refine hS.splitB (t := 62) rfl ?_ ?_ <;> clear hS
        · intro hg hS
          refine xcondT hS rfl ?_
          refine Go.wpIn_seq_k ?_; intro K181 hK181
          refine xdrawn (by kernel_rfl) (by kernel_rfl) hS hR (Ex.of_pk (r := blk bb9 _ _) (by repeat (first | with_reducible exact Pk.here | with_reducible apply Pk.there))) ?_; clear hR; intro ww hR hR0
          refine dA 1 rfl (by kernel_rfl) (by kernel_rfl) (by kernel_rfl) (fun _ _ _ h => h) hS hR0 (Yld.move hS rfl) (by decide) ?_; clear hS; intro aa hS
          refine dA 2 rfl (by kernel_rfl) (by kernel_rfl) (by kernel_rfl) (fun _ _ _ h => h) hS hR0 (Yld.assign hS rfl) (by decide) ?_; clear hS; intro aa hS
          refine dOne (i := 0) (by kernel_rfl) ?_
          refine dop rfl (BA hS hR (Yld.load1 hS rfl Try.underlying3 rfl (by first | exact Rd.blk (by repeat (first | with_reducible exact Pk.here | with_reducible apply Pk.there)) (by rfl) | exact Rd.rec (by repeat (first | with_reducible exact Pk.here | with_reducible apply Pk.there)) (by intro _; rfl) (by first | omega | (rw [nods_len]; omega) | (rw [tabN_len]; omega)) rfl | exact Rd.rec0 (by repeat (first | with_reducible exact Pk.here | with_reducible apply Pk.there)) (by intro _; rfl) (by first | omega | (rw [nods_len]; omega) | (rw [tabN_len]; omega)) rfl | exact Rd.flatJ (by repeat (first | with_reducible exact Pk.here | with_reducible apply Pk.there)) (by intro _; rfl) (by first | omega | (rw [nods_len]; omega) | (rw [tabN_len]; omega)) rfl | exact Rd.flat0 (by repeat (first | with_reducible exact Pk.here | with_reducible apply Pk.there)) (by intro _; rfl) (by first | omega | (rw [nods_len]; omega) | (rw [tabN_len]; omega)) rfl)) (by decide) ?_); clear hS; intro aa hS; refine ⟨hR0, ?_⟩
          refine dA 3 rfl (by kernel_rfl) (by kernel_rfl) (by kernel_rfl) (fun _ _ _ h => h) hS hR0 (Yld.assign hS rfl) (by decide) ?_; clear hS; intro aa hS
          refine dOne (i := 4) (by kernel_rfl) ?_
          refine dop rfl (Bstore hS hR rfl rfl (by rfl) info3 (by rfl) (by repeat (first | with_reducible exact Pk.here | with_reducible apply Pk.there)) (by rfl) (Nat.le_of_ble_eq_true rfl) ?_); clear hR hR0; intro ww hR
          refine dnext (hR.sub (by repeat (first | with_reducible exact Ex.refl | (with_reducible apply Ex.take; · repeat (first | with_reducible exact Pk.here | with_reducible apply Pk.there)) | with_reducible apply Ex.drop))) ?_; intro hR0
          refine wpAnyH_done (by kernel_rfl) ?_ _; clear hR0; refine ⟨by simp, hS.defers, ?_⟩
          refine hK181 _ _ ?_
          refine Go.wpIn_seq_k ?_; intro K182 hK182
          refine xdrawn (by kernel_rfl) (by kernel_rfl) hS hR (Ex.of_pk (r := sls r2 _ _ _ _ _) (by repeat (first | with_reducible exact Pk.here | with_reducible apply Pk.there))) ?_; clear hR; intro ww hR hR0
          refine dA 0 rfl (by kernel_rfl) (by kernel_rfl) (by kernel_rfl) (fun _ _ _ h => h) hS hR0 (Yld.load1 hS rfl Try.underlying23 rfl (by first | exact Rd.blk (by repeat (first | with_reducible exact Pk.here | with_reducible apply Pk.there)) (by rfl) | exact Rd.rec (by repeat (first | with_reducible exact Pk.here | with_reducible apply Pk.there)) (by intro _; rfl) (by first | omega | (rw [nods_len]; omega) | (rw [tabN_len]; omega)) rfl | exact Rd.rec0 (by repeat (first | with_reducible exact Pk.here | with_reducible apply Pk.there)) (by intro _; rfl) (by first | omega | (rw [nods_len]; omega) | (rw [tabN_len]; omega)) rfl | exact Rd.flatJ (by repeat (first | with_reducible exact Pk.here | with_reducible apply Pk.there)) (by intro _; rfl) (by first | omega | (rw [nods_len]; omega) | (rw [tabN_len]; omega)) rfl | exact Rd.flat0 (by repeat (first | with_reducible exact Pk.here | with_reducible apply Pk.there)) (by intro _; rfl) (by first | omega | (rw [nods_len]; omega) | (rw [tabN_len]; omega)) rfl)) (by decide) ?_; clear hS; intro aa hS
          refine dA 1 rfl (by kernel_rfl) (by kernel_rfl) (by kernel_rfl) (fun _ _ _ h => h) hS hR0 (Yld.nilCheck hS rfl) (by decide) ?_; clear hS; intro aa hS
          refine dA 2 rfl (by kernel_rfl) (by kernel_rfl) (by kernel_rfl) (fun _ _ _ h => h) hS hR0 (Yld.fieldAddr hS rfl 2 Try.underlying54 rfl rfl info27 (by decide)) (by decide) ?_; clear hS; intro aa hS
          refine dA 3 rfl (by kernel_rfl) (by kernel_rfl) (by kernel_rfl) (fun _ _ _ h => h) hS hR0 (Yld.load1 hS rfl Try.underlying27 rfl (by first | exact Rd.blk (by repeat (first | with_reducible exact Pk.here | with_reducible apply Pk.there)) (by rfl) | exact Rd.rec (by repeat (first | with_reducible exact Pk.here | with_reducible apply Pk.there)) (by intro _; rfl) (by first | omega | (rw [nods_len]; omega) | (rw [tabN_len]; omega)) rfl | exact Rd.rec0 (by repeat (first | with_reducible exact Pk.here | with_reducible apply Pk.there)) (by intro _; rfl) (by first | omega | (rw [nods_len]; omega) | (rw [tabN_len]; omega)) rfl | exact Rd.flatJ (by repeat (first | with_reducible exact Pk.here | with_reducible apply Pk.there)) (by intro _; rfl) (by first | omega | (rw [nods_len]; omega) | (rw [tabN_len]; omega)) rfl | exact Rd.flat0 (by repeat (first | with_reducible exact Pk.here | with_reducible apply Pk.there)) (by intro _; rfl) (by first | omega | (rw [nods_len]; omega) | (rw [tabN_len]; omega)) rfl)) (by decide) ?_; clear hS; intro aa hS
          refine dA 4 rfl (by kernel_rfl) (by kernel_rfl) (by kernel_rfl) (fun _ _ _ h => h) hS hR0 (Yld.move hS rfl) (by decide) ?_; clear hS; intro aa hS
          refine dA 5 rfl (by kernel_rfl) (by kernel_rfl) (by kernel_rfl) (fun _ _ _ h => h) hS hR0 (Yld.load1 hS rfl Try.underlying23 rfl (by first | exact Rd.blk (by repeat (first | with_reducible exact Pk.here | with_reducible apply Pk.there)) (by rfl) | exact Rd.rec (by repeat (first | with_reducible exact Pk.here | with_reducible apply Pk.there)) (by intro _; rfl) (by first | omega | (rw [nods_len]; omega) | (rw [tabN_len]; omega)) rfl | exact Rd.rec0 (by repeat (first | with_reducible exact Pk.here | with_reducible apply Pk.there)) (by intro _; rfl) (by first | omega | (rw [nods_len]; omega) | (rw [tabN_len]; omega)) rfl | exact Rd.flatJ (by repeat (first | with_reducible exact Pk.here | with_reducible apply Pk.there)) (by intro _; rfl) (by first | omega | (rw [nods_len]; omega) | (rw [tabN_len]; omega)) rfl | exact Rd.flat0 (by repeat (first | with_reducible exact Pk.here | with_reducible apply Pk.there)) (by intro _; rfl) (by first | omega | (rw [nods_len]; omega) | (rw [tabN_len]; omega)) rfl)) (by decide) ?_; clear hS; intro aa hS
          refine dA 6 rfl (by kernel_rfl) (by kernel_rfl) (by kernel_rfl) (fun _ _ _ h => h) hS hR0 (Yld.nilCheck hS rfl) (by decide) ?_; clear hS; intro aa hS
          refine dA 7 rfl (by kernel_rfl) (by kernel_rfl) (by kernel_rfl) (fun _ _ _ h => h) hS hR0 (Yld.fieldAddr hS rfl 2 Try.underlying54 rfl rfl info27 (by decide)) (by decide) ?_; clear hS; intro aa hS
          refine dA 8 rfl (by kernel_rfl) (by kernel_rfl) (by kernel_rfl) (fun _ _ _ h => h) hS hR0 (Yld.load1 hS rfl Try.underlying27 rfl (by first | exact Rd.blk (by repeat (first | with_reducible exact Pk.here | with_reducible apply Pk.there)) (by rfl) | exact Rd.rec (by repeat (first | with_reducible exact Pk.here | with_reducible apply Pk.there)) (by intro _; rfl) (by first | omega | (rw [nods_len]; omega) | (rw [tabN_len]; omega)) rfl | exact Rd.rec0 (by repeat (first | with_reducible exact Pk.here | with_reducible apply Pk.there)) (by intro _; rfl) (by first | omega | (rw [nods_len]; omega) | (rw [tabN_len]; omega)) rfl | exact Rd.flatJ (by repeat (first | with_reducible exact Pk.here | with_reducible apply Pk.there)) (by intro _; rfl) (by first | omega | (rw [nods_len]; omega) | (rw [tabN_len]; omega)) rfl | exact Rd.flat0 (by repeat (first | with_reducible exact Pk.here | with_reducible apply Pk.there)) (by intro _; rfl) (by first | omega | (rw [nods_len]; omega) | (rw [tabN_len]; omega)) rfl)) (by decide) ?_; clear hS; intro aa hS
          refine dA 9 rfl (by kernel_rfl) (by kernel_rfl) (by kernel_rfl) (fun _ _ _ h => h) hS hR0 (Yld.move hS rfl) (by decide) ?_; clear hS; intro aa hS
          refine dA 10 rfl (by kernel_rfl) (by kernel_rfl) (by kernel_rfl) (fun _ _ _ h => h) hS hR0 (Yld.move hS rfl) (by decide) ?_; clear hS; intro aa hS
          refine dA 11 rfl (by kernel_rfl) (by kernel_rfl) (by kernel_rfl) (fun _ _ _ h => h) hS hR0 (Yld.load1 hS rfl Try.underlying3 rfl (by first | exact Rd.blk (by repeat (first | with_reducible exact Pk.here | with_reducible apply Pk.there)) (by rfl) | exact Rd.rec (by repeat (first | with_reducible exact Pk.here | with_reducible apply Pk.there)) (by intro _; rfl) (by first | omega | (rw [nods_len]; omega) | (rw [tabN_len]; omega)) rfl | exact Rd.rec0 (by repeat (first | with_reducible exact Pk.here | with_reducible apply Pk.there)) (by intro _; rfl) (by first | omega | (rw [nods_len]; omega) | (rw [tabN_len]; omega)) rfl | exact Rd.flatJ (by repeat (first | with_reducible exact Pk.here | with_reducible apply Pk.there)) (by intro _; rfl) (by first | omega | (rw [nods_len]; omega) | (rw [tabN_len]; omega)) rfl | exact Rd.flat0 (by repeat (first | with_reducible exact Pk.here | with_reducible apply Pk.there)) (by intro _; rfl) (by first | omega | (rw [nods_len]; omega) | (rw [tabN_len]; omega)) rfl)) (by decide) ?_; clear hS; intro aa hS
          refine dA 12 rfl (by kernel_rfl) (by kernel_rfl) (by kernel_rfl) (fun _ _ _ h => h) hS hR0 ((by first | exact Yld.indexH (sz := 1) (tq) hS rfl rfl Try.underlying27 info3 (by assumption) rfl (by first | rfl | omega) (by omega) | exact Yld.indexL (sz := 1) (tq) hS rfl rfl Try.underlying27 info3 (by repeat (first | with_reducible exact Pk.here | with_reducible apply Pk.there)) rfl (by first | rfl | omega) (by omega) | exact Yld.indexB (sz := 1) (tq) hS rfl rfl Try.underlying27 info3 rfl (by first | rfl | omega) (by omega))) (by decide) ?_; clear hS; intro aa hS
          refine dOne (i := 13) (by kernel_rfl) ?_
          refine dop rfl (BstoreT hS hR rfl rfl info3 rfl (by repeat (first | with_reducible exact Pk.here | with_reducible apply Pk.there)) (by omega) ?_); clear hR hR0; intro ww hR
          refine dnext (hR.sub (by repeat (first | with_reducible exact Ex.refl | (with_reducible apply Ex.take; · repeat (first | with_reducible exact Pk.here | with_reducible apply Pk.there)) | with_reducible apply Ex.drop))) ?_; intro hR0
          refine dA 14 rfl (by kernel_rfl) (by kernel_rfl) (by kernel_rfl) (fun _ _ _ h => h) hS hR0 ((by first | exact Yld.indexH (sz := 1) (fq) hS rfl rfl Try.underlying27 info3 (by assumption) rfl (by first | rfl | omega) (by omega) | exact Yld.indexL (sz := 1) (fq) hS rfl rfl Try.underlying27 info3 (by repeat (first | with_reducible exact Pk.here | with_reducible apply Pk.there)) rfl (by first | rfl | omega) (by omega) | exact Yld.indexB (sz := 1) (fq) hS rfl rfl Try.underlying27 info3 rfl (by first | rfl | omega) (by omega))) (by decide) ?_; clear hS; intro aa hS
          refine dOne (i := 15) (by kernel_rfl) ?_
          refine dop rfl (BstoreT hS hR rfl rfl info3 rfl (by repeat (first | with_reducible exact Pk.here | with_reducible apply Pk.there)) (by omega) ?_); clear hR hR0; intro ww hR
          refine dnext (hR.sub (by repeat (first | with_reducible exact Ex.refl | (with_reducible apply Ex.take; · repeat (first | with_reducible exact Pk.here | with_reducible apply Pk.there)) | with_reducible apply Ex.drop))) ?_; intro hR0
          refine wpAnyH_done (by kernel_rfl) ?_ _; clear hR0; refine ⟨by simp, hS.defers, ?_⟩
          refine hK182 _ _ ?_
          refine xdrawn (by kernel_rfl) (by kernel_rfl) hS hR (Ex.of_pk (r := sls r3 _ _ _ _ _) (by repeat (first | with_reducible exact Pk.here | with_reducible apply Pk.there))) ?_; clear hR; intro ww hR hR0
          refine dA 0 rfl (by kernel_rfl) (by kernel_rfl) (by kernel_rfl) (fun _ _ _ h => h) hS hR0 (Yld.load1 hS rfl Try.underlying23 rfl (by first | exact Rd.blk (by repeat (first | with_reducible exact Pk.here | with_reducible apply Pk.there)) (by rfl) | exact Rd.rec (by repeat (first | with_reducible exact Pk.here | with_reducible apply Pk.there)) (by intro _; rfl) (by first | omega | (rw [nods_len]; omega) | (rw [tabN_len]; omega)) rfl | exact Rd.rec0 (by repeat (first | with_reducible exact Pk.here | with_reducible apply Pk.there)) (by intro _; rfl) (by first | omega | (rw [nods_len]; omega) | (rw [tabN_len]; omega)) rfl | exact Rd.flatJ (by repeat (first | with_reducible exact Pk.here | with_reducible apply Pk.there)) (by intro _; rfl) (by first | omega | (rw [nods_len]; omega) | (rw [tabN_len]; omega)) rfl | exact Rd.flat0 (by repeat (first | with_reducible exact Pk.here | with_reducible apply Pk.there)) (by intro _; rfl) (by first | omega | (rw [nods_len]; omega) | (rw [tabN_len]; omega)) rfl)) (by decide) ?_; clear hS; intro aa hS
          refine dA 1 rfl (by kernel_rfl) (by kernel_rfl) (by kernel_rfl) (fun _ _ _ h => h) hS hR0 (Yld.nilCheck hS rfl) (by decide) ?_; clear hS; intro aa hS
          refine dA 2 rfl (by kernel_rfl) (by kernel_rfl) (by kernel_rfl) (fun _ _ _ h => h) hS hR0 (Yld.fieldAddr hS rfl 3 Try.underlying54 rfl rfl info27 (by decide)) (by decide) ?_; clear hS; intro aa hS
          refine dA 3 rfl (by kernel_rfl) (by kernel_rfl) (by kernel_rfl) (fun _ _ _ h => h) hS hR0 (Yld.load1 hS rfl Try.underlying27 rfl (by first | exact Rd.blk (by repeat (first | with_reducible exact Pk.here | with_reducible apply Pk.there)) (by rfl) | exact Rd.rec (by repeat (first | with_reducible exact Pk.here | with_reducible apply Pk.there)) (by intro _; rfl) (by first | omega | (rw [nods_len]; omega) | (rw [tabN_len]; omega)) rfl | exact Rd.rec0 (by repeat (first | with_reducible exact Pk.here | with_reducible apply Pk.there)) (by intro _; rfl) (by first | omega | (rw [nods_len]; omega) | (rw [tabN_len]; omega)) rfl | exact Rd.flatJ (by repeat (first | with_reducible exact Pk.here | with_reducible apply Pk.there)) (by intro _; rfl) (by first | omega | (rw [nods_len]; omega) | (rw [tabN_len]; omega)) rfl | exact Rd.flat0 (by repeat (first | with_reducible exact Pk.here | with_reducible apply Pk.there)) (by intro _; rfl) (by first | omega | (rw [nods_len]; omega) | (rw [tabN_len]; omega)) rfl)) (by decide) ?_; clear hS; intro aa hS
          refine dA 4 rfl (by kernel_rfl) (by kernel_rfl) (by kernel_rfl) (fun _ _ _ h => h) hS hR0 (Yld.move hS rfl) (by decide) ?_; clear hS; intro aa hS
          refine dA 5 rfl (by kernel_rfl) (by kernel_rfl) (by kernel_rfl) (fun _ _ _ h => h) hS hR0 (Yld.load1 hS rfl Try.underlying23 rfl (by first | exact Rd.blk (by repeat (first | with_reducible exact Pk.here | with_reducible apply Pk.there)) (by rfl) | exact Rd.rec (by repeat (first | with_reducible exact Pk.here | with_reducible apply Pk.there)) (by intro _; rfl) (by first | omega | (rw [nods_len]; omega) | (rw [tabN_len]; omega)) rfl | exact Rd.rec0 (by repeat (first | with_reducible exact Pk.here | with_reducible apply Pk.there)) (by intro _; rfl) (by first | omega | (rw [nods_len]; omega) | (rw [tabN_len]; omega)) rfl | exact Rd.flatJ (by repeat (first | with_reducible exact Pk.here | with_reducible apply Pk.there)) (by intro _; rfl) (by first | omega | (rw [nods_len]; omega) | (rw [tabN_len]; omega)) rfl | exact Rd.flat0 (by repeat (first | with_reducible exact Pk.here | with_reducible apply Pk.there)) (by intro _; rfl) (by first | omega | (rw [nods_len]; omega) | (rw [tabN_len]; omega)) rfl)) (by decide) ?_; clear hS; intro aa hS
          refine dA 6 rfl (by kernel_rfl) (by kernel_rfl) (by kernel_rfl) (fun _ _ _ h => h) hS hR0 (Yld.nilCheck hS rfl) (by decide) ?_; clear hS; intro aa hS
          refine dA 7 rfl (by kernel_rfl) (by kernel_rfl) (by kernel_rfl) (fun _ _ _ h => h) hS hR0 (Yld.fieldAddr hS rfl 3 Try.underlying54 rfl rfl info27 (by decide)) (by decide) ?_; clear hS; intro aa hS
          refine dA 8 rfl (by kernel_rfl) (by kernel_rfl) (by kernel_rfl) (fun _ _ _ h => h) hS hR0 (Yld.load1 hS rfl Try.underlying27 rfl (by first | exact Rd.blk (by repeat (first | with_reducible exact Pk.here | with_reducible apply Pk.there)) (by rfl) | exact Rd.rec (by repeat (first | with_reducible exact Pk.here | with_reducible apply Pk.there)) (by intro _; rfl) (by first | omega | (rw [nods_len]; omega) | (rw [tabN_len]; omega)) rfl | exact Rd.rec0 (by repeat (first | with_reducible exact Pk.here | with_reducible apply Pk.there)) (by intro _; rfl) (by first | omega | (rw [nods_len]; omega) | (rw [tabN_len]; omega)) rfl | exact Rd.flatJ (by repeat (first | with_reducible exact Pk.here | with_reducible apply Pk.there)) (by intro _; rfl) (by first | omega | (rw [nods_len]; omega) | (rw [tabN_len]; omega)) rfl | exact Rd.flat0 (by repeat (first | with_reducible exact Pk.here | with_reducible apply Pk.there)) (by intro _; rfl) (by first | omega | (rw [nods_len]; omega) | (rw [tabN_len]; omega)) rfl)) (by decide) ?_; clear hS; intro aa hS
          refine dA 9 rfl (by kernel_rfl) (by kernel_rfl) (by kernel_rfl) (fun _ _ _ h => h) hS hR0 (Yld.load1 hS rfl Try.underlying3 rfl (by first | exact Rd.blk (by repeat (first | with_reducible exact Pk.here | with_reducible apply Pk.there)) (by rfl) | exact Rd.rec (by repeat (first | with_reducible exact Pk.here | with_reducible apply Pk.there)) (by intro _; rfl) (by first | omega | (rw [nods_len]; omega) | (rw [tabN_len]; omega)) rfl | exact Rd.rec0 (by repeat (first | with_reducible exact Pk.here | with_reducible apply Pk.there)) (by intro _; rfl) (by first | omega | (rw [nods_len]; omega) | (rw [tabN_len]; omega)) rfl | exact Rd.flatJ (by repeat (first | with_reducible exact Pk.here | with_reducible apply Pk.there)) (by intro _; rfl) (by first | omega | (rw [nods_len]; omega) | (rw [tabN_len]; omega)) rfl | exact Rd.flat0 (by repeat (first | with_reducible exact Pk.here | with_reducible apply Pk.there)) (by intro _; rfl) (by first | omega | (rw [nods_len]; omega) | (rw [tabN_len]; omega)) rfl)) (by decide) ?_; clear hS; intro aa hS
          refine dA 10 rfl (by kernel_rfl) (by kernel_rfl) (by kernel_rfl) (fun _ _ _ h => h) hS hR0 (Yld.move hS rfl) (by decide) ?_; clear hS; intro aa hS
          refine dA 11 rfl (by kernel_rfl) (by kernel_rfl) (by kernel_rfl) (fun _ _ _ h => h) hS hR0 (Yld.move hS rfl) (by decide) ?_; clear hS; intro aa hS
          refine dA 12 rfl (by kernel_rfl) (by kernel_rfl) (by kernel_rfl) (fun _ _ _ h => h) hS hR0 ((by first | exact Yld.indexH (sz := 1) (rg fq) hS rfl rfl Try.underlying27 info3 (by assumption) rfl (by first | rfl | omega) (by omega) | exact Yld.indexL (sz := 1) (rg fq) hS rfl rfl Try.underlying27 info3 (by repeat (first | with_reducible exact Pk.here | with_reducible apply Pk.there)) rfl (by first | rfl | omega) (by omega) | exact Yld.indexB (sz := 1) (rg fq) hS rfl rfl Try.underlying27 info3 rfl (by first | rfl | omega) (by omega))) (by decide) ?_; clear hS; intro aa hS
          refine dOne (i := 13) (by kernel_rfl) ?_
          refine dop rfl (BstoreT hS hR rfl rfl info3 rfl (by repeat (first | with_reducible exact Pk.here | with_reducible apply Pk.there)) (by omega) ?_); clear hR hR0; intro ww hR
          refine dnext (hR.sub (by repeat (first | with_reducible exact Ex.refl | (with_reducible apply Ex.take; · repeat (first | with_reducible exact Pk.here | with_reducible apply Pk.there)) | with_reducible apply Ex.drop))) ?_; intro hR0
          refine dA 14 rfl (by kernel_rfl) (by kernel_rfl) (by kernel_rfl) (fun _ _ _ h => h) hS hR0 ((by first | exact Yld.indexH (sz := 1) (rg tq) hS rfl rfl Try.underlying27 info3 (by assumption) rfl (by first | rfl | omega) (by omega) | exact Yld.indexL (sz := 1) (rg tq) hS rfl rfl Try.underlying27 info3 (by repeat (first | with_reducible exact Pk.here | with_reducible apply Pk.there)) rfl (by first | rfl | omega) (by omega) | exact Yld.indexB (sz := 1) (rg tq) hS rfl rfl Try.underlying27 info3 rfl (by first | rfl | omega) (by omega))) (by decide) ?_; clear hS; intro aa hS
          refine dOne (i := 15) (by kernel_rfl) ?_
          refine dop rfl (BstoreT hS hR rfl rfl info3 rfl (by repeat (first | with_reducible exact Pk.here | with_reducible apply Pk.there)) (by omega) ?_); clear hR hR0; intro ww hR
          refine dnext (hR.sub (by repeat (first | with_reducible exact Ex.refl | (with_reducible apply Ex.take; · repeat (first | with_reducible exact Pk.here | with_reducible apply Pk.there)) | with_reducible apply Ex.drop))) ?_; intro hR0
          refine wpAnyH_done (by kernel_rfl) ?_ _; clear hR0; refine ⟨by simp, hS.defers, ?_⟩
          try dsimp only [lay, List.set] at hR
          try rw [upd_comm (f := rg) (Ne.symm hxy)] at hR
          try rw [upd_comm (f := nm) hrr] at hR
          have hW2 := hW.swap htn hfn hxy
          have hfin := join_front (L := L) hxy
          obtain ⟨nm2, hnm2⟩ : ∃ z, upd (upd nm (rg fq) tq) (rg tq) fq = z := ⟨_, rfl⟩
          obtain ⟨rg2, hrg2⟩ : ∃ z, upd (upd rg tq (rg fq)) fq (rg tq) = z := ⟨_, rfl⟩
          have ht2 : rg2 tq = rg fq := by rw [← hrg2, upd_ne hxy, upd_eq]
          have hf2 : rg2 fq = rg tq := by rw [← hrg2, upd_eq]
          rw [hnm2, hrg2] at hR hW2
          rw [← hf2] at hR
          replace hS := hS.say (t := 8) (.int .i64 ((rg2 tq : Nat) : Int)) rfl (by rw [ht2])
          exact tail159 _ _ _ 0 bb3 bb9 hW2 (by omega) hfin _ _ (hS.le (Le.cons rfl (Le.cons rfl (Le.cons rfl (Le.cons rfl (Le.nil _)))))) (hR.sub (by repeat (first | with_reducible exact Ex.refl | (with_reducible apply Ex.take; · repeat (first | with_reducible exact Pk.here | with_reducible apply Pk.there)) | with_reducible apply Ex.drop)))
        · intro hg hS
          refine xcondF hS rfl ?_
          refine Go.wpIn_skip ?_
          try dsimp only [lay, List.set] at hR
          have hW2 := hW
          have hfin := join_back (L := L) (x := tq) (y := fq)
          exact tail159 _ _ _ 1 bb3 bb9 hW2 (by omega) hfin _ _ (hS.le (Le.cons rfl (Le.cons rfl (Le.cons rfl (Le.cons rfl (Le.nil _)))))) (hR.sub (by repeat (first | with_reducible exact Ex.refl | (with_reducible apply Ex.take; · repeat (first | with_reducible exact Pk.here | with_reducible apply Pk.there)) | with_reducible apply Ex.drop)))
end Go.Proofs.Ytcokognhodjfgaa.Sx
