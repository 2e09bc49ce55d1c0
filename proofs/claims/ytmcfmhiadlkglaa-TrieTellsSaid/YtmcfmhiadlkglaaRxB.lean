/-
  
-/
import Derived.Test.YtmcfmhiadlkglaaRxA
import Derived.Test.YtmcfmhiadlkglaaPa
namespace Go.Proofs.Ytmcfmhiadlkglaa.Sx
open Go
set_option linter.unusedVariables false
set_option linter.unusedSimpArgs false

theorem bls24_0_  (w : World) : (Instr.buildSlice 24 0 [].toArray).run Try.prog w = .ok (.slice (some ⟨w.heap.size, 0, none⟩) 0 0) (w.alloc (.cells ([] : List Value).toArray 34)) := by kernel_rfl
theorem bls56_0_  (w : World) : (Instr.buildSlice 56 0 [].toArray).run Try.prog w = .ok (.slice (some ⟨w.heap.size, 0, none⟩) 0 0) (w.alloc (.cells ([] : List Value).toArray 3)) := by kernel_rfl

set_option maxHeartbeats 4000000 in
set_option maxRecDepth 20000 in
theorem place_ok {K : List (Ky × Int)} {most : Int} {k : Ky} {b : Nat} {l : List HP} {w : World} (hR : Sep (rtrA 58 34 3 b K most :: l) w) (hk : WfK k) : CallR Try.prog 46 [.pointer (some ⟨b, 0, none⟩), vK k] w (fun v w' => v = .tuple [.int .i64 ((plc K k : Nat) : Int), .bool (findV K k).isSome].toArray ∧ Sep (rtrA 58 34 3 b K most :: l) w') := by
  refine enter Try.func46 rfl Try.ntmps46 (Nat.le_of_ble_eq_true rfl) ?_; intro aa hS
  obtain ⟨r1, c1, r2, c2, hGK, hR⟩ := (hR.pk (r := rtrA _ _ _ b _ _) pkQ).rtrE
  have hG := hGK.good
  have hsl := hGK.slen
  have hvl := vals_len (K := K)
  have hcp1 := (hR.pk (r := sls r1 _ _ _ _ _) pkQ).slsLe.1
  have hcp2 := (hR.pk (r := sls r2 _ _ _ _ _) pkQ).slsLe.1
  refine wp_seq_k ?_; intro K387 hK387
  refine wp_region_lit ?_
  refine sB (Bbox hS hR rfl (by rfl) (by decide) ?_); clear hS hR; intro aa ww bb3 hS hR
  refine sA hS hR (Yld.assign hS rfl) (by decide) ?_; clear hS; intro aa hS
  refine sA hS hR (Yld.assign hS rfl) (by decide) ?_; clear hS; intro aa hS
  refine wpList_nil ?_
  refine hK387 _ _ ?_
  refine wp_seq_k ?_; intro K388 hK388
  refine wp_region_lit ?_
  refine sA hS hR (Yld.assign hS rfl) (by decide) ?_; clear hS; intro aa hS
  refine wpList_nil ?_
  refine hK388 _ _ ?_
  refine wp_seq_k ?_; intro K389 hK389
  refine wp_block ?_
  refine loopI (X := Nat) [(0, _), (3, _), (4, _), (5, _)] (fun x => [(6, .int .i64 (x : Int))]) (fun x => []) _ (fun x => ∃ h9 : x ≤ (srt K).length, ∀ j (hj : j < x), ltK ((srt K)[j]'(by omega)) k) (fun x => (srt K).length - x) 0 ⟨Nat.zero_le _, fun j h => by omega⟩ (hS.le (Le.cons rfl (Le.nilapp (Le.cons rfl (Le.cons rfl (Le.cons rfl (Le.cons rfl (Le.nil _)))))))) hR ?_
  clear hS hR; rintro j aa ww hI hS hR; dsimp only [List.cons_append, List.nil_append] at hI hS hR
  obtain ⟨hI0, hI1⟩ := hI
  have hI : j ≤ (srt K).length ∧ ∀ i (hi : i < j), ltK ((srt K)[i]'(by omega)) k := ⟨hI0, hI1⟩
  refine wp_seq_k ?_; intro K391 hK391
  refine wp_seq_k ?_; intro K392 hK392
  refine drawn (by kernel_rfl) hR Ex.refl ?_; clear hR; intro ww hR hR0
  refine dA 0 rfl (by kernel_rfl) (by kernel_rfl) (by kernel_rfl) (fun _ _ _ h => h) hS hR0 (Yld.move hS rfl) (by decide) ?_; clear hS; intro aa hS
  refine dA 1 rfl (by kernel_rfl) (by kernel_rfl) (by kernel_rfl) (fun _ _ _ h => h) hS hR0 (Yld.move hS rfl) (by decide) ?_; clear hS; intro aa hS
  refine dA 2 rfl (by kernel_rfl) (by kernel_rfl) (by kernel_rfl) (fun _ _ _ h => h) hS hR0 (Yld.nilCheck hS rfl) (by decide) ?_; clear hS; intro aa hS
  refine dA 3 rfl (by kernel_rfl) (by kernel_rfl) (by kernel_rfl) (fun _ _ _ h => h) hS hR0 (Yld.fieldAddr hS rfl 1 Try.underlying58 rfl rfl info24 (by decide)) (by decide) ?_; clear hS; intro aa hS
  refine dA 4 rfl (by kernel_rfl) (by kernel_rfl) (by kernel_rfl) (fun _ _ _ h => h) hS hR0 (Yld.load1 hS rfl Try.underlying24 rfl (by first | exact Rd.blk pkQ (by rfl) | exact Rd.rec pkQ (by intro _; rfl) (by omega) rfl | exact Rd.rec0 pkQ (by intro _; rfl) (by omega) rfl | exact Rd.flatJ pkQ (by intro _; rfl) (by omega) rfl | exact Rd.flat0 pkQ (by intro _; rfl) (by omega) rfl)) (by decide) ?_; clear hS; intro aa hS
  refine dA 5 rfl (by kernel_rfl) (by kernel_rfl) (by kernel_rfl) (fun _ _ _ h => h) hS hR0 (Yld.len hS rfl Try.underlying24) (by decide) ?_; clear hS; intro aa hS
  refine dA 6 rfl (by kernel_rfl) (by kernel_rfl) (by kernel_rfl) (fun _ _ _ h => h) hS hR0 (Yld.lss hS rfl rfl) (by decide) ?_; clear hS; intro aa hS
  refine dA 7 rfl (by kernel_rfl) (by kernel_rfl) (by kernel_rfl) (fun _ _ _ h => h) hS hR0 (Yld.move hS rfl) (by decide) ?_; clear hS; intro aa hS
  refine hS.splitB (t := 14) rfl ?_ ?_ <;> clear hS
  · intro hg hS
    refine dAg 8 rfl (by kernel_rfl) (by kernel_rfl) (by kernel_rfl) (fun _ _ _ h => h) hS rfl rfl hR0 (Yld.move hS rfl) (by decide) ?_; clear hS; intro aa hS
    refine dAg 9 rfl (by kernel_rfl) (by kernel_rfl) (by kernel_rfl) (fun _ _ _ h => h) hS rfl rfl hR0 (Yld.nilCheck hS rfl) (by decide) ?_; clear hS; intro aa hS
    refine dAg 10 rfl (by kernel_rfl) (by kernel_rfl) (by kernel_rfl) (fun _ _ _ h => h) hS rfl rfl hR0 (Yld.fieldAddr hS rfl 1 Try.underlying58 rfl rfl info24 (by decide)) (by decide) ?_; clear hS; intro aa hS
    refine dAg 11 rfl (by kernel_rfl) (by kernel_rfl) (by kernel_rfl) (fun _ _ _ h => h) hS rfl rfl hR0 (Yld.load1 hS rfl Try.underlying24 rfl (by first | exact Rd.blk pkQ (by rfl) | exact Rd.rec pkQ (by intro _; rfl) (by omega) rfl | exact Rd.rec0 pkQ (by intro _; rfl) (by omega) rfl | exact Rd.flatJ pkQ (by intro _; rfl) (by omega) rfl | exact Rd.flat0 pkQ (by intro _; rfl) (by omega) rfl)) (by decide) ?_; clear hS; intro aa hS
    refine dAg 12 rfl (by kernel_rfl) (by kernel_rfl) (by kernel_rfl) (fun _ _ _ h => h) hS rfl rfl hR0 (Yld.move hS rfl) (by decide) ?_; clear hS; intro aa hS
    refine dAg 13 rfl (by kernel_rfl) (by kernel_rfl) (by kernel_rfl) (fun _ _ _ h => h) hS rfl rfl hR0 ((by first | exact Yld.indexL (sz := 5) (j) hS rfl rfl Try.underlying24 info34 pkQ rfl (by first | rfl | omega) (by omega) | exact Yld.indexB (sz := 5) (j) hS rfl rfl Try.underlying24 info34 rfl (by first | rfl | omega) (by omega))) (by decide) ?_; clear hS; intro aa hS
    refine dAg 14 rfl (by kernel_rfl) (by kernel_rfl) (by kernel_rfl) (fun _ _ _ h => h) hS rfl rfl hR0 (Yld.loadAgg hS rfl Try.underlying34 rfl info34 (by first | exact Rds.cons (Rd.blk pkQ (by rfl)) (Rds.cons (Rd.blk pkQ (by rfl)) (Rds.cons (Rd.blk pkQ (by rfl)) (Rds.cons (Rd.blk pkQ (by rfl)) (Rds.cons (Rd.blk pkQ (by rfl)) (Rds.nil))))) | exact Rds.rec pkQ (by intro _; rfl) (by omega) | exact Rds.flat1 pkQ (by intro _; rfl) (by omega)) (by rfl)) (by decide) ?_; clear hS; intro aa hS
    obtain ⟨y0, y0e⟩ : ∃ y : Ky, (srt K)[j] = y := ⟨_, rfl⟩
    have hy0 := (has_get hG (by omega) y0e).2
    replace hS := hS.say (t := 21) (vK y0) rfl (by rw [y0e])
    refine dAg 15 rfl (by kernel_rfl) (by kernel_rfl) (by kernel_rfl) (fun _ _ _ h => h) hS rfl rfl hR0 (Yld.loadAgg hS rfl Try.underlying34 rfl info34 (by first | exact Rds.cons (Rd.blk pkQ (by rfl)) (Rds.cons (Rd.blk pkQ (by rfl)) (Rds.cons (Rd.blk pkQ (by rfl)) (Rds.cons (Rd.blk pkQ (by rfl)) (Rds.cons (Rd.blk pkQ (by rfl)) (Rds.nil))))) | exact Rds.rec pkQ (by intro _; rfl) (by omega) | exact Rds.flat1 pkQ (by intro _; rfl) (by omega)) (by rfl)) (by decide) ?_; clear hS; intro aa hS
    refine dOne (i := 16) (by kernel_rfl) ?_
    refine dopg rfl hS rfl rfl (Bcall hS rfl Try.call47 (before_ok (a := y0) (b := k) hR hy0 hk) (by decide) ?_); clear hS; intro aa ww vv hS hp
    clear hR hR0
    obtain ⟨rfl, hR⟩ := hp
    refine dnext (hR.sub exQ) ?_; intro hR0
    refine dA 17 rfl (by kernel_rfl) (by kernel_rfl) (by kernel_rfl) (fun _ _ _ h => h) hS hR0 (Yld.pickT hS rfl rfl) (by decide) ?_; clear hS; intro aa hS
    refine wpAnyH_done (by kernel_rfl) ?_ _; clear hR0
    refine hK392 _ _ ?_
    refine hS.splitB (t := 24) rfl ?_ ?_ <;> clear hS
    · intro hg hS
      have hlt : ltK (srt K)[j] k := by rw [y0e]; exact ltK_iff.2 hg
      refine condT hS rfl ?_
      refine wp_skip ?_
      refine hK391 _ _ ?_
      refine wp_block ?_
      refine wp_region_lit ?_
      refine sA hS hR (Yld.move hS rfl) (by decide) ?_; clear hS; intro aa hS
      refine sA hS hR ((by first | exact Yld.add64 hS rfl rfl (by omega) | exact Yld.add hS rfl rfl)) (by decide) ?_; clear hS; intro aa hS
      refine sA hS hR (Yld.assign hS rfl) (by decide) ?_; clear hS; intro aa hS
      refine wpList_nil ?_
      
      refine ⟨j + 1, ?_, ?_, hS.le (Le.cons rfl (Le.nilapp (Le.cons rfl (Le.cons rfl (Le.cons rfl (Le.cons rfl (Le.nil _))))))), hR.sub (Ex.nilapp exQ)⟩
      · exact ⟨by omega, fun i hi => by
          by_cases e : i = j
          · subst e; exact hlt
          · exact hI1 i (by omega)⟩
      · omega
    · intro hg hS
      have hpl : plc K k = j := plc_uniq hI.1 hI.2 (fun h h9 => by rw [y0e] at h9; exact hg (ltK_iff.1 h9))
      subst hpl
      refine condF hS rfl ?_
      refine wp_exit ?_
      refine hK389 _ _ ?_
      refine wp_seq_k ?_; intro K393 hK393
      refine drawn (by kernel_rfl) hR Ex.refl ?_; clear hR; intro ww hR hR0
      refine dA 0 rfl (by kernel_rfl) (by kernel_rfl) (by kernel_rfl) (fun _ _ _ h => h) hS hR0 (Yld.move hS rfl) (by decide) ?_; clear hS; intro aa hS
      refine dA 1 rfl (by kernel_rfl) (by kernel_rfl) (by kernel_rfl) (fun _ _ _ h => h) hS hR0 (Yld.move hS rfl) (by decide) ?_; clear hS; intro aa hS
      refine dA 2 rfl (by kernel_rfl) (by kernel_rfl) (by kernel_rfl) (fun _ _ _ h => h) hS hR0 (Yld.move hS rfl) (by decide) ?_; clear hS; intro aa hS
      refine dA 3 rfl (by kernel_rfl) (by kernel_rfl) (by kernel_rfl) (fun _ _ _ h => h) hS hR0 (Yld.nilCheck hS rfl) (by decide) ?_; clear hS; intro aa hS
      refine dA 4 rfl (by kernel_rfl) (by kernel_rfl) (by kernel_rfl) (fun _ _ _ h => h) hS hR0 (Yld.fieldAddr hS rfl 1 Try.underlying58 rfl rfl info24 (by decide)) (by decide) ?_; clear hS; intro aa hS
      refine dA 5 rfl (by kernel_rfl) (by kernel_rfl) (by kernel_rfl) (fun _ _ _ h => h) hS hR0 (Yld.load1 hS rfl Try.underlying24 rfl (by first | exact Rd.blk pkQ (by rfl) | exact Rd.rec pkQ (by intro _; rfl) (by omega) rfl | exact Rd.rec0 pkQ (by intro _; rfl) (by omega) rfl | exact Rd.flatJ pkQ (by intro _; rfl) (by omega) rfl | exact Rd.flat0 pkQ (by intro _; rfl) (by omega) rfl)) (by decide) ?_; clear hS; intro aa hS
      refine dA 6 rfl (by kernel_rfl) (by kernel_rfl) (by kernel_rfl) (fun _ _ _ h => h) hS hR0 (Yld.len hS rfl Try.underlying24) (by decide) ?_; clear hS; intro aa hS
      refine dA 7 rfl (by kernel_rfl) (by kernel_rfl) (by kernel_rfl) (fun _ _ _ h => h) hS hR0 (Yld.lss hS rfl rfl) (by decide) ?_; clear hS; intro aa hS
      refine dA 8 rfl (by kernel_rfl) (by kernel_rfl) (by kernel_rfl) (fun _ _ _ h => h) hS hR0 (Yld.move hS rfl) (by decide) ?_; clear hS; intro aa hS
      refine hS.splitB (t := 35) rfl ?_ ?_ <;> clear hS
      · intro hg hS
        refine dAg 9 rfl (by kernel_rfl) (by kernel_rfl) (by kernel_rfl) (fun _ _ _ h => h) hS rfl rfl hR0 (Yld.move hS rfl) (by decide) ?_; clear hS; intro aa hS
        refine dAg 10 rfl (by kernel_rfl) (by kernel_rfl) (by kernel_rfl) (fun _ _ _ h => h) hS rfl rfl hR0 (Yld.nilCheck hS rfl) (by decide) ?_; clear hS; intro aa hS
        refine dAg 11 rfl (by kernel_rfl) (by kernel_rfl) (by kernel_rfl) (fun _ _ _ h => h) hS rfl rfl hR0 (Yld.fieldAddr hS rfl 1 Try.underlying58 rfl rfl info24 (by decide)) (by decide) ?_; clear hS; intro aa hS
        refine dAg 12 rfl (by kernel_rfl) (by kernel_rfl) (by kernel_rfl) (fun _ _ _ h => h) hS rfl rfl hR0 (Yld.load1 hS rfl Try.underlying24 rfl (by first | exact Rd.blk pkQ (by rfl) | exact Rd.rec pkQ (by intro _; rfl) (by omega) rfl | exact Rd.rec0 pkQ (by intro _; rfl) (by omega) rfl | exact Rd.flatJ pkQ (by intro _; rfl) (by omega) rfl | exact Rd.flat0 pkQ (by intro _; rfl) (by omega) rfl)) (by decide) ?_; clear hS; intro aa hS
        refine dAg 13 rfl (by kernel_rfl) (by kernel_rfl) (by kernel_rfl) (fun _ _ _ h => h) hS rfl rfl hR0 (Yld.move hS rfl) (by decide) ?_; clear hS; intro aa hS
        refine dAg 14 rfl (by kernel_rfl) (by kernel_rfl) (by kernel_rfl) (fun _ _ _ h => h) hS rfl rfl hR0 ((by first | exact Yld.indexL (sz := 5) (plc K k) hS rfl rfl Try.underlying24 info34 pkQ rfl (by first | rfl | omega) (by omega) | exact Yld.indexB (sz := 5) (plc K k) hS rfl rfl Try.underlying24 info34 rfl (by first | rfl | omega) (by omega))) (by decide) ?_; clear hS; intro aa hS
        refine dAg 15 rfl (by kernel_rfl) (by kernel_rfl) (by kernel_rfl) (fun _ _ _ h => h) hS rfl rfl hR0 (Yld.loadAgg hS rfl Try.underlying34 rfl info34 (by first | exact Rds.cons (Rd.blk pkQ (by rfl)) (Rds.cons (Rd.blk pkQ (by rfl)) (Rds.cons (Rd.blk pkQ (by rfl)) (Rds.cons (Rd.blk pkQ (by rfl)) (Rds.cons (Rd.blk pkQ (by rfl)) (Rds.nil))))) | exact Rds.rec pkQ (by intro _; rfl) (by omega) | exact Rds.flat1 pkQ (by intro _; rfl) (by omega)) (by rfl)) (by decide) ?_; clear hS; intro aa hS
        obtain ⟨y1, y1e⟩ : ∃ y : Ky, (srt K)[plc K k] = y := ⟨_, rfl⟩
        have hy1 := (has_get hG (by omega) y1e).2
        replace hS := hS.say (t := 42) (vK y1) rfl (by rw [y1e])
        refine dAg 16 rfl (by kernel_rfl) (by kernel_rfl) (by kernel_rfl) (fun _ _ _ h => h) hS rfl rfl hR0 (Yld.loadAgg hS rfl Try.underlying34 rfl info34 (by first | exact Rds.cons (Rd.blk pkQ (by rfl)) (Rds.cons (Rd.blk pkQ (by rfl)) (Rds.cons (Rd.blk pkQ (by rfl)) (Rds.cons (Rd.blk pkQ (by rfl)) (Rds.cons (Rd.blk pkQ (by rfl)) (Rds.nil))))) | exact Rds.rec pkQ (by intro _; rfl) (by omega) | exact Rds.flat1 pkQ (by intro _; rfl) (by omega)) (by rfl)) (by decide) ?_; clear hS; intro aa hS
        refine dAg 17 rfl (by kernel_rfl) (by kernel_rfl) (by kernel_rfl) (fun _ _ _ h => h) hS rfl rfl hR0 (Yld.binRun hS rfl rfl (eql34 _ _ _ _ _ _ _ _ _ _ _ _)) (by decide) ?_; clear hS; intro aa hS
        refine dA 18 rfl (by kernel_rfl) (by kernel_rfl) (by kernel_rfl) (fun _ _ _ h => h) hS hR0 (Yld.pickT hS rfl rfl) (by decide) ?_; clear hS; intro aa hS
        refine dA 19 rfl (by kernel_rfl) (by kernel_rfl) (by kernel_rfl) (fun _ _ _ h => h) hS hR0 (Yld.assign hS rfl) (by decide) ?_; clear hS; intro aa hS
        refine dA 20 rfl (by kernel_rfl) (by kernel_rfl) (by kernel_rfl) (fun _ _ _ h => h) hS hR0 (Yld.assign hS rfl) (by decide) ?_; clear hS; intro aa hS
        refine wpAnyH_done (by kernel_rfl) ?_ _; clear hR0
        refine hK393 _ _ ?_
        refine wp_ret ?_
        repeat (first | with_reducible refine thenR ?_ | with_reducible refine blockR ?_ | with_reducible refine scopeR ?_)
        refine retN (fn := Try.f46) (e := .ret) (.inl rfl) Try.results46 hS hR ⟨_, .cons (.tmp rfl) (.cons (.tmp rfl) (.nil)), rfl, ?_⟩
        refine ⟨?_, Sep.rtrI (TR := 58) (TK := 34) (TI := 3) (b := b) (K := K) (most := most) hGK rfl rfl rfl rfl (hR.sub exQ)⟩
        first
          | (rw [findV_no hno]; rfl)
          | (congr 3
             have hiff := plc_is hG hk
             by_cases hh : has K k
             · rw [findV_some.2 hh]; obtain ⟨h8, h9⟩ := hiff.2 hh; rw [y1e] at h9; subst h9; simp
             · rw [findV_no hh]; have h8 : ¬ y1 = k := fun e => hh (hiff.1 ⟨by omega, y1e.trans e⟩); obtain ⟨a1, a2, a3, a4, a5⟩ := y1; obtain ⟨b1, b2, b3, b4, b5⟩ := k; simpa using h8)
      · intro hg hS
        have hno : ¬ has K k := fun h => by obtain ⟨h9, _⟩ := (plc_is hG hk).2 h; omega
        refine dSkip 9 rfl (by kernel_rfl) (by kernel_rfl) (by kernel_rfl) (fun _ _ _ h => h) hS rfl rfl rfl hR0 (by decide) ?_; clear hS; intro aa hS
        refine dSkip 10 rfl (by kernel_rfl) (by kernel_rfl) (by kernel_rfl) (fun _ _ _ h => h) hS rfl rfl rfl hR0 (by decide) ?_; clear hS; intro aa hS
        refine dSkip 11 rfl (by kernel_rfl) (by kernel_rfl) (by kernel_rfl) (fun _ _ _ h => h) hS rfl rfl rfl hR0 (by decide) ?_; clear hS; intro aa hS
        refine dSkip 12 rfl (by kernel_rfl) (by kernel_rfl) (by kernel_rfl) (fun _ _ _ h => h) hS rfl rfl rfl hR0 (by decide) ?_; clear hS; intro aa hS
        refine dSkip 13 rfl (by kernel_rfl) (by kernel_rfl) (by kernel_rfl) (fun _ _ _ h => h) hS rfl rfl rfl hR0 (by decide) ?_; clear hS; intro aa hS
        refine dSkip 14 rfl (by kernel_rfl) (by kernel_rfl) (by kernel_rfl) (fun _ _ _ h => h) hS rfl rfl rfl hR0 (by decide) ?_; clear hS; intro aa hS
        refine dSkip 15 rfl (by kernel_rfl) (by kernel_rfl) (by kernel_rfl) (fun _ _ _ h => h) hS rfl rfl rfl hR0 (by decide) ?_; clear hS; intro aa hS
        refine dSkip 16 rfl (by kernel_rfl) (by kernel_rfl) (by kernel_rfl) (fun _ _ _ h => h) hS rfl rfl rfl hR0 (by decide) ?_; clear hS; intro aa hS
        refine dSkip 17 rfl (by kernel_rfl) (by kernel_rfl) (by kernel_rfl) (fun _ _ _ h => h) hS rfl rfl rfl hR0 (by decide) ?_; clear hS; intro aa hS
        refine dA 18 rfl (by kernel_rfl) (by kernel_rfl) (by kernel_rfl) (fun _ _ _ h => h) hS hR0 (Yld.pickF hS rfl rfl) (by decide) ?_; clear hS; intro aa hS
        refine dA 19 rfl (by kernel_rfl) (by kernel_rfl) (by kernel_rfl) (fun _ _ _ h => h) hS hR0 (Yld.assign hS rfl) (by decide) ?_; clear hS; intro aa hS
        refine dA 20 rfl (by kernel_rfl) (by kernel_rfl) (by kernel_rfl) (fun _ _ _ h => h) hS hR0 (Yld.assign hS rfl) (by decide) ?_; clear hS; intro aa hS
        refine wpAnyH_done (by kernel_rfl) ?_ _; clear hR0
        refine hK393 _ _ ?_
        refine wp_ret ?_
        repeat (first | with_reducible refine thenR ?_ | with_reducible refine blockR ?_ | with_reducible refine scopeR ?_)
        refine retN (fn := Try.f46) (e := .ret) (.inl rfl) Try.results46 hS hR ⟨_, .cons (.tmp rfl) (.cons (.tmp rfl) (.nil)), rfl, ?_⟩
        refine ⟨?_, Sep.rtrI (TR := 58) (TK := 34) (TI := 3) (b := b) (K := K) (most := most) hGK rfl rfl rfl rfl (hR.sub exQ)⟩
        first
          | (rw [findV_no hno]; rfl)
          | (congr 3
             have hiff := plc_is hG hk
             by_cases hh : has K k
             · rw [findV_some.2 hh]; obtain ⟨h8, h9⟩ := hiff.2 hh; rw [y1e] at h9; subst h9; simp
             · rw [findV_no hh]; have h8 : ¬ y1 = k := fun e => hh (hiff.1 ⟨by omega, y1e.trans e⟩); obtain ⟨a1, a2, a3, a4, a5⟩ := y1; obtain ⟨b1, b2, b3, b4, b5⟩ := k; simpa using h8)
  · intro hg hS
    have hpl : plc K k = j := plc_uniq hI.1 hI.2 (fun h => by omega)
    subst hpl
    refine dSkip 8 rfl (by kernel_rfl) (by kernel_rfl) (by kernel_rfl) (fun _ _ _ h => h) hS rfl rfl rfl hR0 (by decide) ?_; clear hS; intro aa hS
    refine dSkip 9 rfl (by kernel_rfl) (by kernel_rfl) (by kernel_rfl) (fun _ _ _ h => h) hS rfl rfl rfl hR0 (by decide) ?_; clear hS; intro aa hS
    refine dSkip 10 rfl (by kernel_rfl) (by kernel_rfl) (by kernel_rfl) (fun _ _ _ h => h) hS rfl rfl rfl hR0 (by decide) ?_; clear hS; intro aa hS
    refine dSkip 11 rfl (by kernel_rfl) (by kernel_rfl) (by kernel_rfl) (fun _ _ _ h => h) hS rfl rfl rfl hR0 (by decide) ?_; clear hS; intro aa hS
    refine dSkip 12 rfl (by kernel_rfl) (by kernel_rfl) (by kernel_rfl) (fun _ _ _ h => h) hS rfl rfl rfl hR0 (by decide) ?_; clear hS; intro aa hS
    refine dSkip 13 rfl (by kernel_rfl) (by kernel_rfl) (by kernel_rfl) (fun _ _ _ h => h) hS rfl rfl rfl hR0 (by decide) ?_; clear hS; intro aa hS
    refine dSkip 14 rfl (by kernel_rfl) (by kernel_rfl) (by kernel_rfl) (fun _ _ _ h => h) hS rfl rfl rfl hR0 (by decide) ?_; clear hS; intro aa hS
    refine dSkip 15 rfl (by kernel_rfl) (by kernel_rfl) (by kernel_rfl) (fun _ _ _ h => h) hS rfl rfl rfl hR0 (by decide) ?_; clear hS; intro aa hS
    refine dSkip 16 rfl (by kernel_rfl) (by kernel_rfl) (by kernel_rfl) (fun _ _ _ h => h) hS rfl rfl rfl hR0 (by decide) ?_; clear hS; intro aa hS
    refine dA 17 rfl (by kernel_rfl) (by kernel_rfl) (by kernel_rfl) (fun _ _ _ h => h) hS hR0 (Yld.pickF hS rfl rfl) (by decide) ?_; clear hS; intro aa hS
    refine wpAnyH_done (by kernel_rfl) ?_ _; clear hR0
    refine hK392 _ _ ?_
    refine condF hS rfl ?_
    refine wp_exit ?_
    refine hK389 _ _ ?_
    refine wp_seq_k ?_; intro K394 hK394
    refine drawn (by kernel_rfl) hR Ex.refl ?_; clear hR; intro ww hR hR0
    refine dA 0 rfl (by kernel_rfl) (by kernel_rfl) (by kernel_rfl) (fun _ _ _ h => h) hS hR0 (Yld.move hS rfl) (by decide) ?_; clear hS; intro aa hS
    refine dA 1 rfl (by kernel_rfl) (by kernel_rfl) (by kernel_rfl) (fun _ _ _ h => h) hS hR0 (Yld.move hS rfl) (by decide) ?_; clear hS; intro aa hS
    refine dA 2 rfl (by kernel_rfl) (by kernel_rfl) (by kernel_rfl) (fun _ _ _ h => h) hS hR0 (Yld.move hS rfl) (by decide) ?_; clear hS; intro aa hS
    refine dA 3 rfl (by kernel_rfl) (by kernel_rfl) (by kernel_rfl) (fun _ _ _ h => h) hS hR0 (Yld.nilCheck hS rfl) (by decide) ?_; clear hS; intro aa hS
    refine dA 4 rfl (by kernel_rfl) (by kernel_rfl) (by kernel_rfl) (fun _ _ _ h => h) hS hR0 (Yld.fieldAddr hS rfl 1 Try.underlying58 rfl rfl info24 (by decide)) (by decide) ?_; clear hS; intro aa hS
    refine dA 5 rfl (by kernel_rfl) (by kernel_rfl) (by kernel_rfl) (fun _ _ _ h => h) hS hR0 (Yld.load1 hS rfl Try.underlying24 rfl (by first | exact Rd.blk pkQ (by rfl) | exact Rd.rec pkQ (by intro _; rfl) (by omega) rfl | exact Rd.rec0 pkQ (by intro _; rfl) (by omega) rfl | exact Rd.flatJ pkQ (by intro _; rfl) (by omega) rfl | exact Rd.flat0 pkQ (by intro _; rfl) (by omega) rfl)) (by decide) ?_; clear hS; intro aa hS
    refine dA 6 rfl (by kernel_rfl) (by kernel_rfl) (by kernel_rfl) (fun _ _ _ h => h) hS hR0 (Yld.len hS rfl Try.underlying24) (by decide) ?_; clear hS; intro aa hS
    refine dA 7 rfl (by kernel_rfl) (by kernel_rfl) (by kernel_rfl) (fun _ _ _ h => h) hS hR0 (Yld.lss hS rfl rfl) (by decide) ?_; clear hS; intro aa hS
    refine dA 8 rfl (by kernel_rfl) (by kernel_rfl) (by kernel_rfl) (fun _ _ _ h => h) hS hR0 (Yld.move hS rfl) (by decide) ?_; clear hS; intro aa hS
    refine hS.splitB (t := 35) rfl ?_ ?_ <;> clear hS
    · intro hg hS
      refine dAg 9 rfl (by kernel_rfl) (by kernel_rfl) (by kernel_rfl) (fun _ _ _ h => h) hS rfl rfl hR0 (Yld.move hS rfl) (by decide) ?_; clear hS; intro aa hS
      refine dAg 10 rfl (by kernel_rfl) (by kernel_rfl) (by kernel_rfl) (fun _ _ _ h => h) hS rfl rfl hR0 (Yld.nilCheck hS rfl) (by decide) ?_; clear hS; intro aa hS
      refine dAg 11 rfl (by kernel_rfl) (by kernel_rfl) (by kernel_rfl) (fun _ _ _ h => h) hS rfl rfl hR0 (Yld.fieldAddr hS rfl 1 Try.underlying58 rfl rfl info24 (by decide)) (by decide) ?_; clear hS; intro aa hS
      refine dAg 12 rfl (by kernel_rfl) (by kernel_rfl) (by kernel_rfl) (fun _ _ _ h => h) hS rfl rfl hR0 (Yld.load1 hS rfl Try.underlying24 rfl (by first | exact Rd.blk pkQ (by rfl) | exact Rd.rec pkQ (by intro _; rfl) (by omega) rfl | exact Rd.rec0 pkQ (by intro _; rfl) (by omega) rfl | exact Rd.flatJ pkQ (by intro _; rfl) (by omega) rfl | exact Rd.flat0 pkQ (by intro _; rfl) (by omega) rfl)) (by decide) ?_; clear hS; intro aa hS
      refine dAg 13 rfl (by kernel_rfl) (by kernel_rfl) (by kernel_rfl) (fun _ _ _ h => h) hS rfl rfl hR0 (Yld.move hS rfl) (by decide) ?_; clear hS; intro aa hS
      refine dAg 14 rfl (by kernel_rfl) (by kernel_rfl) (by kernel_rfl) (fun _ _ _ h => h) hS rfl rfl hR0 ((by first | exact Yld.indexL (sz := 5) (plc K k) hS rfl rfl Try.underlying24 info34 pkQ rfl (by first | rfl | omega) (by omega) | exact Yld.indexB (sz := 5) (plc K k) hS rfl rfl Try.underlying24 info34 rfl (by first | rfl | omega) (by omega))) (by decide) ?_; clear hS; intro aa hS
      refine dAg 15 rfl (by kernel_rfl) (by kernel_rfl) (by kernel_rfl) (fun _ _ _ h => h) hS rfl rfl hR0 (Yld.loadAgg hS rfl Try.underlying34 rfl info34 (by first | exact Rds.cons (Rd.blk pkQ (by rfl)) (Rds.cons (Rd.blk pkQ (by rfl)) (Rds.cons (Rd.blk pkQ (by rfl)) (Rds.cons (Rd.blk pkQ (by rfl)) (Rds.cons (Rd.blk pkQ (by rfl)) (Rds.nil))))) | exact Rds.rec pkQ (by intro _; rfl) (by omega) | exact Rds.flat1 pkQ (by intro _; rfl) (by omega)) (by rfl)) (by decide) ?_; clear hS; intro aa hS
      obtain ⟨y1, y1e⟩ : ∃ y : Ky, (srt K)[plc K k] = y := ⟨_, rfl⟩
      have hy1 := (has_get hG (by omega) y1e).2
      replace hS := hS.say (t := 42) (vK y1) rfl (by rw [y1e])
      refine dAg 16 rfl (by kernel_rfl) (by kernel_rfl) (by kernel_rfl) (fun _ _ _ h => h) hS rfl rfl hR0 (Yld.loadAgg hS rfl Try.underlying34 rfl info34 (by first | exact Rds.cons (Rd.blk pkQ (by rfl)) (Rds.cons (Rd.blk pkQ (by rfl)) (Rds.cons (Rd.blk pkQ (by rfl)) (Rds.cons (Rd.blk pkQ (by rfl)) (Rds.cons (Rd.blk pkQ (by rfl)) (Rds.nil))))) | exact Rds.rec pkQ (by intro _; rfl) (by omega) | exact Rds.flat1 pkQ (by intro _; rfl) (by omega)) (by rfl)) (by decide) ?_; clear hS; intro aa hS
      refine dAg 17 rfl (by kernel_rfl) (by kernel_rfl) (by kernel_rfl) (fun _ _ _ h => h) hS rfl rfl hR0 (Yld.binRun hS rfl rfl (eql34 _ _ _ _ _ _ _ _ _ _ _ _)) (by decide) ?_; clear hS; intro aa hS
      refine dA 18 rfl (by kernel_rfl) (by kernel_rfl) (by kernel_rfl) (fun _ _ _ h => h) hS hR0 (Yld.pickT hS rfl rfl) (by decide) ?_; clear hS; intro aa hS
      refine dA 19 rfl (by kernel_rfl) (by kernel_rfl) (by kernel_rfl) (fun _ _ _ h => h) hS hR0 (Yld.assign hS rfl) (by decide) ?_; clear hS; intro aa hS
      refine dA 20 rfl (by kernel_rfl) (by kernel_rfl) (by kernel_rfl) (fun _ _ _ h => h) hS hR0 (Yld.assign hS rfl) (by decide) ?_; clear hS; intro aa hS
      refine wpAnyH_done (by kernel_rfl) ?_ _; clear hR0
      refine hK394 _ _ ?_
      refine wp_ret ?_
      repeat (first | with_reducible refine thenR ?_ | with_reducible refine blockR ?_ | with_reducible refine scopeR ?_)
      refine retN (fn := Try.f46) (e := .ret) (.inl rfl) Try.results46 hS hR ⟨_, .cons (.tmp rfl) (.cons (.tmp rfl) (.nil)), rfl, ?_⟩
      refine ⟨?_, Sep.rtrI (TR := 58) (TK := 34) (TI := 3) (b := b) (K := K) (most := most) hGK rfl rfl rfl rfl (hR.sub exQ)⟩
      first
        | (rw [findV_no hno]; rfl)
        | (congr 3
           have hiff := plc_is hG hk
           by_cases hh : has K k
           · rw [findV_some.2 hh]; obtain ⟨h8, h9⟩ := hiff.2 hh; rw [y1e] at h9; subst h9; simp
           · rw [findV_no hh]; have h8 : ¬ y1 = k := fun e => hh (hiff.1 ⟨by omega, y1e.trans e⟩); obtain ⟨a1, a2, a3, a4, a5⟩ := y1; obtain ⟨b1, b2, b3, b4, b5⟩ := k; simpa using h8)
    · intro hg hS
      have hno : ¬ has K k := fun h => by obtain ⟨h9, _⟩ := (plc_is hG hk).2 h; omega
      refine dSkip 9 rfl (by kernel_rfl) (by kernel_rfl) (by kernel_rfl) (fun _ _ _ h => h) hS rfl rfl rfl hR0 (by decide) ?_; clear hS; intro aa hS
      refine dSkip 10 rfl (by kernel_rfl) (by kernel_rfl) (by kernel_rfl) (fun _ _ _ h => h) hS rfl rfl rfl hR0 (by decide) ?_; clear hS; intro aa hS
      refine dSkip 11 rfl (by kernel_rfl) (by kernel_rfl) (by kernel_rfl) (fun _ _ _ h => h) hS rfl rfl rfl hR0 (by decide) ?_; clear hS; intro aa hS
      refine dSkip 12 rfl (by kernel_rfl) (by kernel_rfl) (by kernel_rfl) (fun _ _ _ h => h) hS rfl rfl rfl hR0 (by decide) ?_; clear hS; intro aa hS
      refine dSkip 13 rfl (by kernel_rfl) (by kernel_rfl) (by kernel_rfl) (fun _ _ _ h => h) hS rfl rfl rfl hR0 (by decide) ?_; clear hS; intro aa hS
      refine dSkip 14 rfl (by kernel_rfl) (by kernel_rfl) (by kernel_rfl) (fun _ _ _ h => h) hS rfl rfl rfl hR0 (by decide) ?_; clear hS; intro aa hS
      refine dSkip 15 rfl (by kernel_rfl) (by kernel_rfl) (by kernel_rfl) (fun _ _ _ h => h) hS rfl rfl rfl hR0 (by decide) ?_; clear hS; intro aa hS
      refine dSkip 16 rfl (by kernel_rfl) (by kernel_rfl) (by kernel_rfl) (fun _ _ _ h => h) hS rfl rfl rfl hR0 (by decide) ?_; clear hS; intro aa hS
      refine dSkip 17 rfl (by kernel_rfl) (by kernel_rfl) (by kernel_rfl) (fun _ _ _ h => h) hS rfl rfl rfl hR0 (by decide) ?_; clear hS; intro aa hS
      refine dA 18 rfl (by kernel_rfl) (by kernel_rfl) (by kernel_rfl) (fun _ _ _ h => h) hS hR0 (Yld.pickF hS rfl rfl) (by decide) ?_; clear hS; intro aa hS
      refine dA 19 rfl (by kernel_rfl) (by kernel_rfl) (by kernel_rfl) (fun _ _ _ h => h) hS hR0 (Yld.assign hS rfl) (by decide) ?_; clear hS; intro aa hS
      refine dA 20 rfl (by kernel_rfl) (by kernel_rfl) (by kernel_rfl) (fun _ _ _ h => h) hS hR0 (Yld.assign hS rfl) (by decide) ?_; clear hS; intro aa hS
      refine wpAnyH_done (by kernel_rfl) ?_ _; clear hR0
      refine hK394 _ _ ?_
      refine wp_ret ?_
      repeat (first | with_reducible refine thenR ?_ | with_reducible refine blockR ?_ | with_reducible refine scopeR ?_)
      refine retN (fn := Try.f46) (e := .ret) (.inl rfl) Try.results46 hS hR ⟨_, .cons (.tmp rfl) (.cons (.tmp rfl) (.nil)), rfl, ?_⟩
      refine ⟨?_, Sep.rtrI (TR := 58) (TK := 34) (TI := 3) (b := b) (K := K) (most := most) hGK rfl rfl rfl rfl (hR.sub exQ)⟩
      first
        | (rw [findV_no hno]; rfl)
        | (congr 3
           have hiff := plc_is hG hk
           by_cases hh : has K k
           · rw [findV_some.2 hh]; obtain ⟨h8, h9⟩ := hiff.2 hh; rw [y1e] at h9; subst h9; simp
           · rw [findV_no hh]; have h8 : ¬ y1 = k := fun e => hh (hiff.1 ⟨by omega, y1e.trans e⟩); obtain ⟨a1, a2, a3, a4, a5⟩ := y1; obtain ⟨b1, b2, b3, b4, b5⟩ := k; simpa using h8)
set_option maxRecDepth 20000 in
theorem RGet_ok {K : List (Ky × Int)} {most : Int} {k : Ky} {b : Nat} {l : List HP} {w : World} (hR : Sep (rtrA 58 34 3 b K most :: l) w) (hk : WfK k) : CallR Try.prog 40 [.pointer (some ⟨b, 0, none⟩), vK k] w (fun v w' => v = .tuple [.int .i64 ((findV K k).getD 0), .bool (findV K k).isSome].toArray ∧ Sep (rtrA 58 34 3 b K most :: l) w') := by
  refine enter Try.func40 rfl Try.ntmps40 (Nat.le_of_ble_eq_true rfl) ?_; intro aa hS
  refine wp_seq_k ?_; intro K395 hK395
  refine wp_region_lit ?_
  refine sB (Bbox hS hR rfl (by rfl) (by decide) ?_); clear hS hR; intro aa ww bb3 hS hR
  refine sA hS hR (Yld.assign hS rfl) (by decide) ?_; clear hS; intro aa hS
  refine sA hS hR (Yld.assign hS rfl) (by decide) ?_; clear hS; intro aa hS
  refine wpList_nil ?_
  refine hK395 _ _ ?_
  refine wp_seq_k ?_; intro K396 hK396
  refine wp_region_lit ?_
  refine sA hS hR (Yld.move hS rfl) (by decide) ?_; clear hS; intro aa hS
  refine sA hS hR (Yld.loadAgg hS rfl Try.underlying34 rfl info34 (by first | exact Rds.cons (Rd.blk pkQ (by rfl)) (Rds.cons (Rd.blk pkQ (by rfl)) (Rds.cons (Rd.blk pkQ (by rfl)) (Rds.cons (Rd.blk pkQ (by rfl)) (Rds.cons (Rd.blk pkQ (by rfl)) (Rds.nil))))) | exact Rds.rec pkQ (by intro _; rfl) (by omega) | exact Rds.flat1 pkQ (by intro _; rfl) (by omega)) (by rfl)) (by decide) ?_; clear hS; intro aa hS
  refine sB (Bcall hS rfl Try.call46 (place_ok (K := K) (most := most) (hR.pk (r := rtrA _ _ _ b _ _) pkQ) hk) (by decide) ?_); clear hS; intro aa ww vv hS hp
  clear hR
  obtain ⟨rfl, hR⟩ := hp
  refine sA hS hR (Yld.move hS rfl) (by decide) ?_; clear hS; intro aa hS
  refine sA hS hR (Yld.extract hS rfl rfl) (by decide) ?_; clear hS; intro aa hS
  refine sA hS hR (Yld.extract hS rfl rfl) (by decide) ?_; clear hS; intro aa hS
  refine sA hS hR (Yld.assign hS rfl) (by decide) ?_; clear hS; intro aa hS
  refine sA hS hR (Yld.assign hS rfl) (by decide) ?_; clear hS; intro aa hS
  refine wpList_nil ?_
  refine hK396 _ _ ?_
  refine wp_seq_k ?_; intro K397 hK397
  refine wp_seq_k ?_; intro K398 hK398
  refine wp_region_lit ?_
  refine sA hS hR (Yld.move hS rfl) (by decide) ?_; clear hS; intro aa hS
  refine hS.splitB (t := 14) rfl ?_ ?_ <;> clear hS
  · intro hg hS
    have hh : has K k := findV_some.1 hg
    obtain ⟨r1, c1, r2, c2, hGK, hR⟩ := (hR.pk (r := rtrA _ _ _ b _ _) pkQ).rtrE
    have hG := hGK.good
    have hsl := hGK.slen
    have hvl := vals_len (K := K)
    have hcp1 := (hR.pk (r := sls r1 _ _ _ _ _) pkQ).slsLe.1
    have hcp2 := (hR.pk (r := sls r2 _ _ _ _ _) pkQ).slsLe.1
    obtain ⟨hpl, hpe⟩ := (plc_is hG hk).2 hh
    refine sA hS hR (Yld.not hS rfl) (by decide) ?_; clear hS; intro aa hS
    refine wpList_nil ?_
    refine hK398 _ _ ?_
    refine condF hS rfl ?_
    refine wp_skip ?_
    refine hK397 _ _ ?_
    refine wp_seq_k ?_; intro K399 hK399
    refine wp_region_lit ?_
    refine sA hS hR (Yld.move hS rfl) (by decide) ?_; clear hS; intro aa hS
    refine sA hS hR (Yld.nilCheck hS rfl) (by decide) ?_; clear hS; intro aa hS
    refine sA hS hR (Yld.fieldAddr hS rfl 2 Try.underlying58 rfl rfl info56 (by decide)) (by decide) ?_; clear hS; intro aa hS
    refine sA hS hR (Yld.load1 hS rfl Try.underlying56 rfl (by first | exact Rd.blk pkQ (by rfl) | exact Rd.rec pkQ (by intro _; rfl) (by omega) rfl | exact Rd.rec0 pkQ (by intro _; rfl) (by omega) rfl | exact Rd.flatJ pkQ (by intro _; rfl) (by omega) rfl | exact Rd.flat0 pkQ (by intro _; rfl) (by omega) rfl)) (by decide) ?_; clear hS; intro aa hS
    refine sA hS hR (Yld.move hS rfl) (by decide) ?_; clear hS; intro aa hS
    refine sA hS hR ((by first | exact Yld.indexL (sz := 1) (plc K k) hS rfl rfl Try.underlying56 info3 pkQ rfl (by first | rfl | omega) (by omega) | exact Yld.indexB (sz := 1) (plc K k) hS rfl rfl Try.underlying56 info3 rfl (by first | rfl | omega) (by omega))) (by decide) ?_; clear hS; intro aa hS
    refine sA hS hR (Yld.load1 hS rfl Try.underlying3 rfl (Rd.rec0 (k := plc K k) (xs := vals K) (v := .int .i64 ((findV K k).getD 0)) pkQ (by intro _; rfl) (by omega) (by have h9 := vals_at hG hk hh; rw [List.getElem?_eq_getElem (by omega)] at h9; rw [Option.some.inj h9]; rfl))) (by decide) ?_; clear hS; intro aa hS
    refine sA hS hR (Yld.assign hS rfl) (by decide) ?_; clear hS; intro aa hS
    refine sA hS hR (Yld.assign hS rfl) (by decide) ?_; clear hS; intro aa hS
    refine wpList_nil ?_
    refine hK399 _ _ ?_
    refine wp_ret ?_
    repeat (first | with_reducible refine thenR ?_ | with_reducible refine blockR ?_ | with_reducible refine scopeR ?_)
    refine retN (fn := Try.f40) (e := .ret) (.inl rfl) Try.results40 hS hR ⟨_, .cons (.tmp rfl) (.cons (.tmp rfl) (.nil)), rfl, ?_⟩
    refine ⟨?_, Sep.rtrI (TR := 58) (TK := 34) (TI := 3) (b := b) (K := K) (most := most) hGK rfl rfl rfl rfl (hR.sub exQ)⟩
    obtain ⟨v0, hv0⟩ := Option.isSome_iff_exists.1 (findV_some.2 hh)
    rw [hv0]; rfl
  · intro hg hS
    have hn : ¬ has K k := fun h => by rw [findV_some.2 h] at hg; cases hg
    refine sA hS hR (Yld.not hS rfl) (by decide) ?_; clear hS; intro aa hS
    refine wpList_nil ?_
    refine hK398 _ _ ?_
    refine condT hS rfl ?_
    refine wp_seq_k ?_; intro K400 hK400
    refine wp_region_lit ?_
    refine sA hS hR (Yld.assign hS rfl) (by decide) ?_; clear hS; intro aa hS
    refine sA hS hR (Yld.assign hS rfl) (by decide) ?_; clear hS; intro aa hS
    refine wpList_nil ?_
    refine hK400 _ _ ?_
    refine wp_ret ?_
    repeat (first | with_reducible refine thenR ?_ | with_reducible refine blockR ?_ | with_reducible refine scopeR ?_)
    refine retN (fn := Try.f40) (e := .ret) (.inl rfl) Try.results40 hS hR ⟨_, .cons (.tmp rfl) (.cons (.tmp rfl) (.nil)), rfl, ?_⟩
    refine ⟨?_, (hR.sub exQ)⟩
    rw [findV_no hn]; rfl
set_option maxHeartbeats 4000000 in
set_option maxRecDepth 20000 in
theorem RPut_ok {K : List (Ky × Int)} {most : Int} {k : Ky} {b : Nat} {l : List HP} {w : World} {vx : Int} (hR : Sep (rtrA 58 34 3 b K most :: l) w) (hk : WfK k) : CallR Try.prog 38 [.pointer (some ⟨b, 0, none⟩), vK k, .int .i64 vx] w (fun v w' => v = .int .i64 (putE K k most) ∧ Sep (rtrA 58 34 3 b (putK K k vx most) most :: l) w') := by
  refine enter Try.func38 rfl Try.ntmps38 (Nat.le_of_ble_eq_true rfl) ?_; intro aa hS
  refine wp_seq_k ?_; intro K401 hK401
  refine wp_region_lit ?_
  refine sB (Bbox hS hR rfl (by rfl) (by decide) ?_); clear hS hR; intro aa ww bb4 hS hR
  refine sA hS hR (Yld.assign hS rfl) (by decide) ?_; clear hS; intro aa hS
  refine wpList_nil ?_
  refine hK401 _ _ ?_
  refine wp_seq_k ?_; intro K402 hK402
  refine wp_region_lit ?_
  refine sA hS hR (Yld.move hS rfl) (by decide) ?_; clear hS; intro aa hS
  refine sA hS hR (Yld.loadAgg hS rfl Try.underlying34 rfl info34 (by first | exact Rds.cons (Rd.blk pkQ (by rfl)) (Rds.cons (Rd.blk pkQ (by rfl)) (Rds.cons (Rd.blk pkQ (by rfl)) (Rds.cons (Rd.blk pkQ (by rfl)) (Rds.cons (Rd.blk pkQ (by rfl)) (Rds.nil))))) | exact Rds.rec pkQ (by intro _; rfl) (by omega) | exact Rds.flat1 pkQ (by intro _; rfl) (by omega)) (by rfl)) (by decide) ?_; clear hS; intro aa hS
  refine sB (Bcall hS rfl Try.call46 (place_ok (K := K) (most := most) (hR.pk (r := rtrA _ _ _ b _ _) pkQ) hk) (by decide) ?_); clear hS; intro aa ww vv hS hp
  clear hR
  obtain ⟨rfl, hR⟩ := hp
  refine sA hS hR (Yld.move hS rfl) (by decide) ?_; clear hS; intro aa hS
  refine sA hS hR (Yld.extract hS rfl rfl) (by decide) ?_; clear hS; intro aa hS
  refine sA hS hR (Yld.extract hS rfl rfl) (by decide) ?_; clear hS; intro aa hS
  refine sA hS hR (Yld.assign hS rfl) (by decide) ?_; clear hS; intro aa hS
  refine sA hS hR (Yld.assign hS rfl) (by decide) ?_; clear hS; intro aa hS
  refine wpList_nil ?_
  refine hK402 _ _ ?_
  refine wp_seq_k ?_; intro K403 hK403
  refine wp_seq_k ?_; intro K404 hK404
  refine wp_region_lit ?_
  refine sA hS hR (Yld.move hS rfl) (by decide) ?_; clear hS; intro aa hS
  refine wpList_nil ?_
  refine hK404 _ _ ?_
  refine hS.splitB (t := 15) rfl ?_ ?_ <;> clear hS
  · intro hg hS
    have hh : has K k := findV_some.1 hg
    refine condT hS rfl ?_
    refine wp_seq_k ?_; intro K405 hK405
    refine wp_region_lit ?_
    refine sA hS hR (Yld.assign hS rfl) (by decide) ?_; clear hS; intro aa hS
    refine wpList_nil ?_
    refine hK405 _ _ ?_
    refine wp_ret ?_
    repeat (first | with_reducible refine thenR ?_ | with_reducible refine blockR ?_ | with_reducible refine scopeR ?_)
    refine ret1 (fn := Try.f38) (e := .ret) (.inl rfl) Try.results38 hS hR ⟨_, (.tmp rfl), ?_⟩
    rw [putE_has hh, putK_has hh]
    exact ⟨rfl, (hR.sub exQ)⟩
  · intro hg hS
    have hn : ¬ has K k := fun h => by rw [findV_some.2 h] at hg; cases hg
    obtain ⟨r1, c1, r2, c2, hGK, hR⟩ := (hR.pk (r := rtrA _ _ _ b _ _) pkQ).rtrE
    have hG := hGK.good
    have hsl := hGK.slen
    have hvl := vals_len (K := K)
    have hcp1 := (hR.pk (r := sls r1 _ _ _ _ _) pkQ).slsLe.1
    have hcp2 := (hR.pk (r := sls r2 _ _ _ _ _) pkQ).slsLe.1
    have hpl := plc_le (K := K) (k := k)
    have hle := hGK.le
    have hsK := srt_len hG
    have hmo := hGK.most
    refine condF hS rfl ?_
    refine wp_skip ?_
    refine hK403 _ _ ?_
    refine wp_seq_k ?_; intro K406 hK406
    refine wp_seq_k ?_; intro K407 hK407
    refine drawn (by kernel_rfl) hR Ex.refl ?_; clear hR; intro ww hR hR0
    refine dA 0 rfl (by kernel_rfl) (by kernel_rfl) (by kernel_rfl) (fun _ _ _ h => h) hS hR0 (Yld.move hS rfl) (by decide) ?_; clear hS; intro aa hS
    refine dA 1 rfl (by kernel_rfl) (by kernel_rfl) (by kernel_rfl) (fun _ _ _ h => h) hS hR0 (Yld.nilCheck hS rfl) (by decide) ?_; clear hS; intro aa hS
    refine dA 2 rfl (by kernel_rfl) (by kernel_rfl) (by kernel_rfl) (fun _ _ _ h => h) hS hR0 (Yld.fieldAddr hS rfl 1 Try.underlying58 rfl rfl info24 (by decide)) (by decide) ?_; clear hS; intro aa hS
    refine dA 3 rfl (by kernel_rfl) (by kernel_rfl) (by kernel_rfl) (fun _ _ _ h => h) hS hR0 (Yld.load1 hS rfl Try.underlying24 rfl (by first | exact Rd.blk pkQ (by rfl) | exact Rd.rec pkQ (by intro _; rfl) (by omega) rfl | exact Rd.rec0 pkQ (by intro _; rfl) (by omega) rfl | exact Rd.flatJ pkQ (by intro _; rfl) (by omega) rfl | exact Rd.flat0 pkQ (by intro _; rfl) (by omega) rfl)) (by decide) ?_; clear hS; intro aa hS
    refine dA 4 rfl (by kernel_rfl) (by kernel_rfl) (by kernel_rfl) (fun _ _ _ h => h) hS hR0 (Yld.len hS rfl Try.underlying24) (by decide) ?_; clear hS; intro aa hS
    refine dA 5 rfl (by kernel_rfl) (by kernel_rfl) (by kernel_rfl) (fun _ _ _ h => h) hS hR0 (Yld.move hS rfl) (by decide) ?_; clear hS; intro aa hS
    refine dA 6 rfl (by kernel_rfl) (by kernel_rfl) (by kernel_rfl) (fun _ _ _ h => h) hS hR0 (Yld.nilCheck hS rfl) (by decide) ?_; clear hS; intro aa hS
    refine dA 7 rfl (by kernel_rfl) (by kernel_rfl) (by kernel_rfl) (fun _ _ _ h => h) hS hR0 (Yld.fieldAddr hS rfl 0 Try.underlying58 rfl rfl info3 (by decide)) (by decide) ?_; clear hS; intro aa hS
    refine dA 8 rfl (by kernel_rfl) (by kernel_rfl) (by kernel_rfl) (fun _ _ _ h => h) hS hR0 (Yld.load1 hS rfl Try.underlying3 rfl (by first | exact Rd.blk pkQ (by rfl) | exact Rd.rec pkQ (by intro _; rfl) (by omega) rfl | exact Rd.rec0 pkQ (by intro _; rfl) (by omega) rfl | exact Rd.flatJ pkQ (by intro _; rfl) (by omega) rfl | exact Rd.flat0 pkQ (by intro _; rfl) (by omega) rfl)) (by decide) ?_; clear hS; intro aa hS
    refine dA 9 rfl (by kernel_rfl) (by kernel_rfl) (by kernel_rfl) (fun _ _ _ h => h) hS hR0 (Yld.eql hS rfl rfl) (by decide) ?_; clear hS; intro aa hS
    refine wpAnyH_done (by kernel_rfl) ?_ _; clear hR0
    refine hK407 _ _ ?_
    refine hS.splitB (t := 25) rfl ?_ ?_ <;> clear hS
    · intro hg hS
      have hfu : (K.length : Int) = most := by omega
      refine condT hS rfl ?_
      refine wp_seq_k ?_; intro K408 hK408
      refine wp_region_lit ?_
      refine sA hS hR (Yld.assign hS rfl) (by decide) ?_; clear hS; intro aa hS
      refine wpList_nil ?_
      refine hK408 _ _ ?_
      refine wp_ret ?_
      repeat (first | with_reducible refine thenR ?_ | with_reducible refine blockR ?_ | with_reducible refine scopeR ?_)
      refine ret1 (fn := Try.f38) (e := .ret) (.inl rfl) Try.results38 hS hR ⟨_, (.tmp rfl), ?_⟩
      rw [putE_full hn hfu, putK_full hn hfu]
      exact ⟨rfl, Sep.rtrI (TR := 58) (TK := 34) (TI := 3) (b := b) (K := K) (most := most) hGK rfl rfl rfl rfl (hR.sub exQ)⟩
    · intro hg hS
      have hnf : (K.length : Int) < most := by omega
      refine condF hS rfl ?_
      refine wp_skip ?_
      refine hK406 _ _ ?_
      refine wp_seq_k ?_; intro K409 hK409
      have tail409 : ∀ (r44 : Option Addr) (c44 : Nat) (aa : Act) (ww : World), Has 68 aa [(0, .pointer (some ⟨b, 0, none⟩)), (2, .int .i64 vx), (7, .int .i64 ((plc K k : Nat) : Int))] → Sep (blk b [.int .i64 most, .slice r44 (srt (K ++ [(k, vx)])).length c44, .slice r2 (vals K).length c2] 58 :: sls r44 (srt (K ++ [(k, vx)])).length c44 34 5 ((srt (K ++ [(k, vx)])).flatMap eK) :: sls r2 (vals K).length c2 3 1 ((vals K).flatMap e1) :: l) ww → K409 aa ww := by
        clear hS hR; intro r44 c44 aa ww hS hR
        refine hK409 _ _ ?_
        refine wp_seq_k ?_; intro K410 hK410
        have tail410 : ∀ (r65 : Option Addr) (c65 : Nat) (aa : Act) (ww : World), Has 68 aa [] → Sep (blk b [.int .i64 most, .slice r44 (srt (K ++ [(k, vx)])).length c44, .slice r65 (vals (K ++ [(k, vx)])).length c65] 58 :: sls r44 (srt (K ++ [(k, vx)])).length c44 34 5 ((srt (K ++ [(k, vx)])).flatMap eK) :: sls r65 (vals (K ++ [(k, vx)])).length c65 3 1 ((vals (K ++ [(k, vx)])).flatMap e1) :: l) ww → K410 aa ww := by
          clear hS hR; intro r65 c65 aa ww hS hR
          refine hK410 _ _ ?_
          refine wp_seq_k ?_; intro K411 hK411
          refine wp_region_lit ?_
          refine sA hS hR (Yld.assign hS rfl) (by decide) ?_; clear hS; intro aa hS
          refine wpList_nil ?_
          refine hK411 _ _ ?_
          refine wp_ret ?_
          repeat (first | with_reducible refine thenR ?_ | with_reducible refine blockR ?_ | with_reducible refine scopeR ?_)
          refine ret1 (fn := Try.f38) (e := .ret) (.inl rfl) Try.results38 hS hR ⟨_, (.tmp rfl), ?_⟩
          rw [putE_new hn hnf, putK_new hn hnf]
          have hGK2 := hGK.put hk vx
          rw [putK_new hn hnf] at hGK2
          exact ⟨rfl, Sep.rtrI (TR := 58) (TK := 34) (TI := 3) (b := b) (K := (K ++ [(k, vx)])) (most := most) hGK2 rfl rfl rfl rfl (hR.sub exQ)⟩
        refine drawnL 21 (by kernel_rfl) hR ?_; clear hR; intro ww hR; have hR0 := hR
        refine lA 0 rfl (by kernel_rfl) (by kernel_rfl) (by kernel_rfl) (by kernel_rfl) (fun _ _ _ h => h) hS hR0 (Yld.move hS rfl) (by decide) ?_; clear hS; intro aa hS
        refine lA 2 rfl (by kernel_rfl) (by kernel_rfl) (by kernel_rfl) (by kernel_rfl) (fun _ _ _ h => h) hS hR0 (Yld.move hS rfl) (by decide) ?_; clear hS; intro aa hS
        refine lA 3 rfl (by kernel_rfl) (by kernel_rfl) (by kernel_rfl) (by kernel_rfl) (fun _ _ _ h => h) hS hR0 (Yld.nilCheck hS rfl) (by decide) ?_; clear hS; intro aa hS
        refine lA 4 rfl (by kernel_rfl) (by kernel_rfl) (by kernel_rfl) (by kernel_rfl) (fun _ _ _ h => h) hS hR0 (Yld.fieldAddr hS rfl 2 Try.underlying58 rfl rfl info56 (by decide)) (by decide) ?_; clear hS; intro aa hS
        refine lA 5 rfl (by kernel_rfl) (by kernel_rfl) (by kernel_rfl) (by kernel_rfl) (fun _ _ _ h => h) hS hR0 (Yld.load1 hS rfl Try.underlying56 rfl (by first | exact Rd.blk pkQ (by rfl) | exact Rd.rec pkQ (by intro _; rfl) (by omega) rfl | exact Rd.rec0 pkQ (by intro _; rfl) (by omega) rfl | exact Rd.flatJ pkQ (by intro _; rfl) (by omega) rfl | exact Rd.flat0 pkQ (by intro _; rfl) (by omega) rfl)) (by decide) ?_; clear hS; intro aa hS
        refine lA 6 rfl (by kernel_rfl) (by kernel_rfl) (by kernel_rfl) (by kernel_rfl) (fun _ _ _ h => h) hS hR0 (Yld.move hS rfl) (by decide) ?_; clear hS; intro aa hS
        refine lA 7 rfl (by kernel_rfl) (by kernel_rfl) (by kernel_rfl) (by kernel_rfl) (fun _ _ _ h => h) hS hR0 (Yld.sliceHi hS rfl rfl Try.underlying56 info3 (by omega) (by omega)) (by decide) ?_; clear hS; intro aa hS
        refine lA 9 rfl (by kernel_rfl) (by kernel_rfl) (by kernel_rfl) (by kernel_rfl) (fun _ _ _ h => h) hS hR0 (Yld.move hS rfl) (by decide) ?_; clear hS; intro aa hS
        refine lA 12 rfl (by kernel_rfl) (by kernel_rfl) (by kernel_rfl) (by kernel_rfl) (fun _ _ _ h => h) hS hR0 (Yld.move hS rfl) (by decide) ?_; clear hS; intro aa hS
        refine lA 13 rfl (by kernel_rfl) (by kernel_rfl) (by kernel_rfl) (by kernel_rfl) (fun _ _ _ h => h) hS hR0 (Yld.nilCheck hS rfl) (by decide) ?_; clear hS; intro aa hS
        refine lA 14 rfl (by kernel_rfl) (by kernel_rfl) (by kernel_rfl) (by kernel_rfl) (fun _ _ _ h => h) hS hR0 (Yld.fieldAddr hS rfl 2 Try.underlying58 rfl rfl info56 (by decide)) (by decide) ?_; clear hS; intro aa hS
        refine lA 15 rfl (by kernel_rfl) (by kernel_rfl) (by kernel_rfl) (by kernel_rfl) (fun _ _ _ h => h) hS hR0 (Yld.load1 hS rfl Try.underlying56 rfl (by first | exact Rd.blk pkQ (by rfl) | exact Rd.rec pkQ (by intro _; rfl) (by omega) rfl | exact Rd.rec0 pkQ (by intro _; rfl) (by omega) rfl | exact Rd.flatJ pkQ (by intro _; rfl) (by omega) rfl | exact Rd.flat0 pkQ (by intro _; rfl) (by omega) rfl)) (by decide) ?_; clear hS; intro aa hS
        refine lA 16 rfl (by kernel_rfl) (by kernel_rfl) (by kernel_rfl) (by kernel_rfl) (fun _ _ _ h => h) hS hR0 (Yld.move hS rfl) (by decide) ?_; clear hS; intro aa hS
        refine lA 17 rfl (by kernel_rfl) (by kernel_rfl) (by kernel_rfl) (by kernel_rfl) (fun _ _ _ h => h) hS hR0 (Yld.sliceLo hS rfl rfl Try.underlying56 info3 (by omega) (by omega)) (by decide) ?_; clear hS; intro aa hS
        refine lTwo (i := 1) (j := 10) (by kernel_rfl) ?_ ?_
        ·
          refine dop rfl (BbuildSlice hS hR rfl (bls56_0_) (by decide) ?_); clear hS hR hR0; intro aa ww bb48 hS hR
          refine lnext (hR.sub exQ) ?_; intro hR0
          replace hR := hR.pk (r := blk bb48 _ _) pkQ
          replace hR := Sep.toRecs (m := 0) (sz := 1) (enc := e1) (([] : List Int)) hR rfl (by intro _; rfl) rfl
          refine lTwo (i := 8) (j := 10) (by kernel_rfl) ?_ ?_
          ·
            refine dop rfl (BappendR (sz := 1) hS hR rfl rfl Try.underlying56 info3 rfl rfl (by rfl) pkQ (XC.upto pkQ (by intro _; rfl) (by omega)) (by intro _; rfl) (by show (_ + _) * 8 ≤ _; first | omega | (simp only [List.length_take, List.length_append, List.length_drop, List.length_cons, List.length_nil, List.length_map]; omega)) (by first | omega | (simp only [List.length_take, List.length_append, List.length_drop, List.length_cons, List.length_nil, List.length_map]; omega)) (by first | rfl | (simp; done) | (simp; omega)) (by decide) ?_); clear hS hR hR0; intro aa ww r55 c55 hS hR
            refine lnext (hR.sub exQ) ?_; intro hR0
            refine lOne (i := 10) (by kernel_rfl) ?_
            refine dop rfl (BbuildSlice hS hR rfl (bls56_1_0 _) (by decide) ?_); clear hS hR hR0; intro aa ww bb57 hS hR
            refine lnext (hR.sub exQ) ?_; intro hR0
            replace hR := hR.pk (r := blk bb57 _ _) pkQ
            replace hR := Sep.toRecs (m := 1) (sz := 1) (enc := e1) ([vx]) hR rfl (by intro _; rfl) rfl
            refine lOne (i := 11) (by kernel_rfl) ?_
            refine dop rfl (BappendR (sz := 1) hS hR rfl rfl Try.underlying56 info3 rfl rfl (by rfl) pkQ (XC.all pkQ) (by intro _; rfl) (by show (_ + _) * 8 ≤ _; first | omega | (simp only [List.length_take, List.length_append, List.length_drop, List.length_cons, List.length_nil, List.length_map]; omega)) (by first | omega | (simp only [List.length_take, List.length_append, List.length_drop, List.length_cons, List.length_nil, List.length_map]; omega)) (by first | rfl | (simp; done) | (simp; omega)) (by decide) ?_); clear hS hR hR0; intro aa ww r58 c58 hS hR
            refine lnext (hR.sub exQ) ?_; intro hR0
            refine lOne (i := 18) (by kernel_rfl) ?_
            refine dop rfl (BappendR (sz := 1) hS hR rfl rfl Try.underlying56 info3 rfl rfl (by rfl) pkQ (XC.part (r := r2) (lo := plc K k) pkQ (by intro _; rfl) (by rfl) (by omega)) (by intro _; rfl) (by show (_ + _) * 8 ≤ _; first | omega | (simp only [List.length_take, List.length_append, List.length_drop, List.length_cons, List.length_nil, List.length_map]; omega)) (by first | omega | (simp only [List.length_take, List.length_append, List.length_drop, List.length_cons, List.length_nil, List.length_map]; omega)) (by first | rfl | (simp; done) | (simp; omega)) (by decide) ?_); clear hS hR hR0; intro aa ww r65 c65 hS hR
            refine lnext (hR.sub exQ) ?_; intro hR0
            simp only [Int.toNat_natCast] at hS hR
            rw [put_vals hG hk hn vx] at hS hR
            refine lOne (i := 19) (by kernel_rfl) ?_
            refine dop rfl (BA hS hR (Yld.nilCheck hS rfl) (by decide) ?_); clear hS; intro aa hS; refine ⟨fun _ => hR0, ?_⟩
            refine lA 20 rfl (by kernel_rfl) (by kernel_rfl) (by kernel_rfl) (by kernel_rfl) (fun _ _ _ h => h) hS hR0 (Yld.fieldAddr hS rfl 2 Try.underlying58 rfl rfl info56 (by decide)) (by decide) ?_; clear hS; intro aa hS
            refine lOne (i := 21) (by kernel_rfl) ?_
            refine dop rfl (Bstore hS hR rfl rfl (by rfl) info56 (by rfl) pkQ (by rfl) (Nat.le_of_ble_eq_true rfl) ?_); clear hR hR0; intro ww hR
            refine lend ?_
            refine wpAnyL_done (by kernel_rfl) ?_ _; try clear hR0
            try dsimp only [lay, List.set] at hR
            exact tail410 r65 c65 _ _ (hS.le (Le.nil _)) (hR.sub exQ)
          ·
            refine dop rfl (BbuildSlice hS hR rfl (bls56_1_0 _) (by decide) ?_); clear hS hR hR0; intro aa ww bb57 hS hR
            refine lnext (hR.sub exQ) ?_; intro hR0
            replace hR := hR.pk (r := blk bb57 _ _) pkQ
            replace hR := Sep.toRecs (m := 1) (sz := 1) (enc := e1) ([vx]) hR rfl (by intro _; rfl) rfl
            refine lOne (i := 8) (by kernel_rfl) ?_
            refine dop rfl (BappendR (sz := 1) hS hR rfl rfl Try.underlying56 info3 rfl rfl (by rfl) pkQ (XC.upto pkQ (by intro _; rfl) (by omega)) (by intro _; rfl) (by show (_ + _) * 8 ≤ _; first | omega | (simp only [List.length_take, List.length_append, List.length_drop, List.length_cons, List.length_nil, List.length_map]; omega)) (by first | omega | (simp only [List.length_take, List.length_append, List.length_drop, List.length_cons, List.length_nil, List.length_map]; omega)) (by first | rfl | (simp; done) | (simp; omega)) (by decide) ?_); clear hS hR hR0; intro aa ww r55 c55 hS hR
            refine lnext (hR.sub exQ) ?_; intro hR0
            refine lOne (i := 11) (by kernel_rfl) ?_
            refine dop rfl (BappendR (sz := 1) hS hR rfl rfl Try.underlying56 info3 rfl rfl (by rfl) pkQ (XC.all pkQ) (by intro _; rfl) (by show (_ + _) * 8 ≤ _; first | omega | (simp only [List.length_take, List.length_append, List.length_drop, List.length_cons, List.length_nil, List.length_map]; omega)) (by first | omega | (simp only [List.length_take, List.length_append, List.length_drop, List.length_cons, List.length_nil, List.length_map]; omega)) (by first | rfl | (simp; done) | (simp; omega)) (by decide) ?_); clear hS hR hR0; intro aa ww r58 c58 hS hR
            refine lnext (hR.sub exQ) ?_; intro hR0
            refine lOne (i := 18) (by kernel_rfl) ?_
            refine dop rfl (BappendR (sz := 1) hS hR rfl rfl Try.underlying56 info3 rfl rfl (by rfl) pkQ (XC.part (r := r2) (lo := plc K k) pkQ (by intro _; rfl) (by rfl) (by omega)) (by intro _; rfl) (by show (_ + _) * 8 ≤ _; first | omega | (simp only [List.length_take, List.length_append, List.length_drop, List.length_cons, List.length_nil, List.length_map]; omega)) (by first | omega | (simp only [List.length_take, List.length_append, List.length_drop, List.length_cons, List.length_nil, List.length_map]; omega)) (by first | rfl | (simp; done) | (simp; omega)) (by decide) ?_); clear hS hR hR0; intro aa ww r65 c65 hS hR
            refine lnext (hR.sub exQ) ?_; intro hR0
            simp only [Int.toNat_natCast] at hS hR
            rw [put_vals hG hk hn vx] at hS hR
            refine lOne (i := 19) (by kernel_rfl) ?_
            refine dop rfl (BA hS hR (Yld.nilCheck hS rfl) (by decide) ?_); clear hS; intro aa hS; refine ⟨fun _ => hR0, ?_⟩
            refine lA 20 rfl (by kernel_rfl) (by kernel_rfl) (by kernel_rfl) (by kernel_rfl) (fun _ _ _ h => h) hS hR0 (Yld.fieldAddr hS rfl 2 Try.underlying58 rfl rfl info56 (by decide)) (by decide) ?_; clear hS; intro aa hS
            refine lOne (i := 21) (by kernel_rfl) ?_
            refine dop rfl (Bstore hS hR rfl rfl (by rfl) info56 (by rfl) pkQ (by rfl) (Nat.le_of_ble_eq_true rfl) ?_); clear hR hR0; intro ww hR
            refine lend ?_
            refine wpAnyL_done (by kernel_rfl) ?_ _; try clear hR0
            try dsimp only [lay, List.set] at hR
            exact tail410 r65 c65 _ _ (hS.le (Le.nil _)) (hR.sub exQ)
        ·
          refine dop rfl (BbuildSlice hS hR rfl (bls56_1_0 _) (by decide) ?_); clear hS hR hR0; intro aa ww bb57 hS hR
          refine lnext (hR.sub exQ) ?_; intro hR0
          replace hR := hR.pk (r := blk bb57 _ _) pkQ
          replace hR := Sep.toRecs (m := 1) (sz := 1) (enc := e1) ([vx]) hR rfl (by intro _; rfl) rfl
          refine lOne (i := 1) (by kernel_rfl) ?_
          refine dop rfl (BbuildSlice hS hR rfl (bls56_0_) (by decide) ?_); clear hS hR hR0; intro aa ww bb48 hS hR
          refine lnext (hR.sub exQ) ?_; intro hR0
          replace hR := hR.pk (r := blk bb48 _ _) pkQ
          replace hR := Sep.toRecs (m := 0) (sz := 1) (enc := e1) (([] : List Int)) hR rfl (by intro _; rfl) rfl
          refine lOne (i := 8) (by kernel_rfl) ?_
          refine dop rfl (BappendR (sz := 1) hS hR rfl rfl Try.underlying56 info3 rfl rfl (by rfl) pkQ (XC.upto pkQ (by intro _; rfl) (by omega)) (by intro _; rfl) (by show (_ + _) * 8 ≤ _; first | omega | (simp only [List.length_take, List.length_append, List.length_drop, List.length_cons, List.length_nil, List.length_map]; omega)) (by first | omega | (simp only [List.length_take, List.length_append, List.length_drop, List.length_cons, List.length_nil, List.length_map]; omega)) (by first | rfl | (simp; done) | (simp; omega)) (by decide) ?_); clear hS hR hR0; intro aa ww r55 c55 hS hR
          refine lnext (hR.sub exQ) ?_; intro hR0
          refine lOne (i := 11) (by kernel_rfl) ?_
          refine dop rfl (BappendR (sz := 1) hS hR rfl rfl Try.underlying56 info3 rfl rfl (by rfl) pkQ (XC.all pkQ) (by intro _; rfl) (by show (_ + _) * 8 ≤ _; first | omega | (simp only [List.length_take, List.length_append, List.length_drop, List.length_cons, List.length_nil, List.length_map]; omega)) (by first | omega | (simp only [List.length_take, List.length_append, List.length_drop, List.length_cons, List.length_nil, List.length_map]; omega)) (by first | rfl | (simp; done) | (simp; omega)) (by decide) ?_); clear hS hR hR0; intro aa ww r58 c58 hS hR
          refine lnext (hR.sub exQ) ?_; intro hR0
          refine lOne (i := 18) (by kernel_rfl) ?_
          refine dop rfl (BappendR (sz := 1) hS hR rfl rfl Try.underlying56 info3 rfl rfl (by rfl) pkQ (XC.part (r := r2) (lo := plc K k) pkQ (by intro _; rfl) (by rfl) (by omega)) (by intro _; rfl) (by show (_ + _) * 8 ≤ _; first | omega | (simp only [List.length_take, List.length_append, List.length_drop, List.length_cons, List.length_nil, List.length_map]; omega)) (by first | omega | (simp only [List.length_take, List.length_append, List.length_drop, List.length_cons, List.length_nil, List.length_map]; omega)) (by first | rfl | (simp; done) | (simp; omega)) (by decide) ?_); clear hS hR hR0; intro aa ww r65 c65 hS hR
          refine lnext (hR.sub exQ) ?_; intro hR0
          simp only [Int.toNat_natCast] at hS hR
          rw [put_vals hG hk hn vx] at hS hR
          refine lOne (i := 19) (by kernel_rfl) ?_
          refine dop rfl (BA hS hR (Yld.nilCheck hS rfl) (by decide) ?_); clear hS; intro aa hS; refine ⟨fun _ => hR0, ?_⟩
          refine lA 20 rfl (by kernel_rfl) (by kernel_rfl) (by kernel_rfl) (by kernel_rfl) (fun _ _ _ h => h) hS hR0 (Yld.fieldAddr hS rfl 2 Try.underlying58 rfl rfl info56 (by decide)) (by decide) ?_; clear hS; intro aa hS
          refine lOne (i := 21) (by kernel_rfl) ?_
          refine dop rfl (Bstore hS hR rfl rfl (by rfl) info56 (by rfl) pkQ (by rfl) (Nat.le_of_ble_eq_true rfl) ?_); clear hR hR0; intro ww hR
          refine lend ?_
          refine wpAnyL_done (by kernel_rfl) ?_ _; try clear hR0
          try dsimp only [lay, List.set] at hR
          exact tail410 r65 c65 _ _ (hS.le (Le.nil _)) (hR.sub exQ)
      refine drawnL 21 (by kernel_rfl) hR ?_; clear hR; intro ww hR; have hR0 := hR
      refine lA 0 rfl (by kernel_rfl) (by kernel_rfl) (by kernel_rfl) (by kernel_rfl) (fun _ _ _ h => h) hS hR0 (Yld.move hS rfl) (by decide) ?_; clear hS; intro aa hS
      refine lA 2 rfl (by kernel_rfl) (by kernel_rfl) (by kernel_rfl) (by kernel_rfl) (fun _ _ _ h => h) hS hR0 (Yld.move hS rfl) (by decide) ?_; clear hS; intro aa hS
      refine lA 3 rfl (by kernel_rfl) (by kernel_rfl) (by kernel_rfl) (by kernel_rfl) (fun _ _ _ h => h) hS hR0 (Yld.nilCheck hS rfl) (by decide) ?_; clear hS; intro aa hS
      refine lA 4 rfl (by kernel_rfl) (by kernel_rfl) (by kernel_rfl) (by kernel_rfl) (fun _ _ _ h => h) hS hR0 (Yld.fieldAddr hS rfl 1 Try.underlying58 rfl rfl info24 (by decide)) (by decide) ?_; clear hS; intro aa hS
      refine lA 5 rfl (by kernel_rfl) (by kernel_rfl) (by kernel_rfl) (by kernel_rfl) (fun _ _ _ h => h) hS hR0 (Yld.load1 hS rfl Try.underlying24 rfl (by first | exact Rd.blk pkQ (by rfl) | exact Rd.rec pkQ (by intro _; rfl) (by omega) rfl | exact Rd.rec0 pkQ (by intro _; rfl) (by omega) rfl | exact Rd.flatJ pkQ (by intro _; rfl) (by omega) rfl | exact Rd.flat0 pkQ (by intro _; rfl) (by omega) rfl)) (by decide) ?_; clear hS; intro aa hS
      refine lA 6 rfl (by kernel_rfl) (by kernel_rfl) (by kernel_rfl) (by kernel_rfl) (fun _ _ _ h => h) hS hR0 (Yld.move hS rfl) (by decide) ?_; clear hS; intro aa hS
      refine lA 7 rfl (by kernel_rfl) (by kernel_rfl) (by kernel_rfl) (by kernel_rfl) (fun _ _ _ h => h) hS hR0 (Yld.sliceHi hS rfl rfl Try.underlying24 info34 (by omega) (by omega)) (by decide) ?_; clear hS; intro aa hS
      refine lA 9 rfl (by kernel_rfl) (by kernel_rfl) (by kernel_rfl) (by kernel_rfl) (fun _ _ _ h => h) hS hR0 (Yld.loadAgg hS rfl Try.underlying34 rfl info34 (by first | exact Rds.cons (Rd.blk pkQ (by rfl)) (Rds.cons (Rd.blk pkQ (by rfl)) (Rds.cons (Rd.blk pkQ (by rfl)) (Rds.cons (Rd.blk pkQ (by rfl)) (Rds.cons (Rd.blk pkQ (by rfl)) (Rds.nil))))) | exact Rds.rec pkQ (by intro _; rfl) (by omega) | exact Rds.flat1 pkQ (by intro _; rfl) (by omega)) (by rfl)) (by decide) ?_; clear hS; intro aa hS
      refine lA 12 rfl (by kernel_rfl) (by kernel_rfl) (by kernel_rfl) (by kernel_rfl) (fun _ _ _ h => h) hS hR0 (Yld.move hS rfl) (by decide) ?_; clear hS; intro aa hS
      refine lA 13 rfl (by kernel_rfl) (by kernel_rfl) (by kernel_rfl) (by kernel_rfl) (fun _ _ _ h => h) hS hR0 (Yld.nilCheck hS rfl) (by decide) ?_; clear hS; intro aa hS
      refine lA 14 rfl (by kernel_rfl) (by kernel_rfl) (by kernel_rfl) (by kernel_rfl) (fun _ _ _ h => h) hS hR0 (Yld.fieldAddr hS rfl 1 Try.underlying58 rfl rfl info24 (by decide)) (by decide) ?_; clear hS; intro aa hS
      refine lA 15 rfl (by kernel_rfl) (by kernel_rfl) (by kernel_rfl) (by kernel_rfl) (fun _ _ _ h => h) hS hR0 (Yld.load1 hS rfl Try.underlying24 rfl (by first | exact Rd.blk pkQ (by rfl) | exact Rd.rec pkQ (by intro _; rfl) (by omega) rfl | exact Rd.rec0 pkQ (by intro _; rfl) (by omega) rfl | exact Rd.flatJ pkQ (by intro _; rfl) (by omega) rfl | exact Rd.flat0 pkQ (by intro _; rfl) (by omega) rfl)) (by decide) ?_; clear hS; intro aa hS
      refine lA 16 rfl (by kernel_rfl) (by kernel_rfl) (by kernel_rfl) (by kernel_rfl) (fun _ _ _ h => h) hS hR0 (Yld.move hS rfl) (by decide) ?_; clear hS; intro aa hS
      refine lA 17 rfl (by kernel_rfl) (by kernel_rfl) (by kernel_rfl) (by kernel_rfl) (fun _ _ _ h => h) hS hR0 (Yld.sliceLo hS rfl rfl Try.underlying24 info34 (by omega) (by omega)) (by decide) ?_; clear hS; intro aa hS
      refine lTwo (i := 1) (j := 10) (by kernel_rfl) ?_ ?_
      ·
        refine dop rfl (BbuildSlice hS hR rfl (bls24_0_) (by decide) ?_); clear hS hR hR0; intro aa ww bb27 hS hR
        refine lnext (hR.sub exQ) ?_; intro hR0
        replace hR := hR.pk (r := blk bb27 _ _) pkQ
        replace hR := Sep.toRecs (m := 0) (sz := 5) (enc := eK) (([] : List Ky)) hR rfl (by intro _; rfl) rfl
        refine lTwo (i := 8) (j := 10) (by kernel_rfl) ?_ ?_
        ·
          refine dop rfl (BappendR (sz := 5) hS hR rfl rfl Try.underlying24 info34 rfl rfl (by rfl) pkQ (XC.upto pkQ (by intro _; rfl) (by omega)) (by intro _; rfl) (by show (_ + _) * 16 ≤ _; first | omega | (simp only [List.length_take, List.length_append, List.length_drop, List.length_cons, List.length_nil, List.length_map]; omega)) (by first | omega | (simp only [List.length_take, List.length_append, List.length_drop, List.length_cons, List.length_nil, List.length_map]; omega)) (by first | rfl | (simp; done) | (simp; omega)) (by decide) ?_); clear hS hR hR0; intro aa ww r34 c34 hS hR
          refine lnext (hR.sub exQ) ?_; intro hR0
          refine lOne (i := 10) (by kernel_rfl) ?_
          refine dop rfl (BbuildSlice hS hR rfl (bls24_1_0 _ _ _ _ _) (by decide) ?_); clear hS hR hR0; intro aa ww bb36 hS hR
          refine lnext (hR.sub exQ) ?_; intro hR0
          replace hR := hR.pk (r := blk bb36 _ _) pkQ
          replace hR := Sep.toRecs (m := 1) (sz := 5) (enc := eK) ([k]) hR rfl (by intro _; rfl) rfl
          refine lOne (i := 11) (by kernel_rfl) ?_
          refine dop rfl (BappendR (sz := 5) hS hR rfl rfl Try.underlying24 info34 rfl rfl (by rfl) pkQ (XC.all pkQ) (by intro _; rfl) (by show (_ + _) * 16 ≤ _; first | omega | (simp only [List.length_take, List.length_append, List.length_drop, List.length_cons, List.length_nil, List.length_map]; omega)) (by first | omega | (simp only [List.length_take, List.length_append, List.length_drop, List.length_cons, List.length_nil, List.length_map]; omega)) (by first | rfl | (simp; done) | (simp; omega)) (by decide) ?_); clear hS hR hR0; intro aa ww r37 c37 hS hR
          refine lnext (hR.sub exQ) ?_; intro hR0
          refine lOne (i := 18) (by kernel_rfl) ?_
          refine dop rfl (BappendR (sz := 5) hS hR rfl rfl Try.underlying24 info34 rfl rfl (by rfl) pkQ (XC.part (r := r1) (lo := plc K k) pkQ (by intro _; rfl) (by rfl) (by omega)) (by intro _; rfl) (by show (_ + _) * 16 ≤ _; first | omega | (simp only [List.length_take, List.length_append, List.length_drop, List.length_cons, List.length_nil, List.length_map]; omega)) (by first | omega | (simp only [List.length_take, List.length_append, List.length_drop, List.length_cons, List.length_nil, List.length_map]; omega)) (by first | rfl | (simp; done) | (simp; omega)) (by decide) ?_); clear hS hR hR0; intro aa ww r44 c44 hS hR
          refine lnext (hR.sub exQ) ?_; intro hR0
          simp only [Int.toNat_natCast] at hS hR
          rw [put_keys hG hk hn vx] at hS hR
          refine lOne (i := 19) (by kernel_rfl) ?_
          refine dop rfl (BA hS hR (Yld.nilCheck hS rfl) (by decide) ?_); clear hS; intro aa hS; refine ⟨fun _ => hR0, ?_⟩
          refine lA 20 rfl (by kernel_rfl) (by kernel_rfl) (by kernel_rfl) (by kernel_rfl) (fun _ _ _ h => h) hS hR0 (Yld.fieldAddr hS rfl 1 Try.underlying58 rfl rfl info24 (by decide)) (by decide) ?_; clear hS; intro aa hS
          refine lOne (i := 21) (by kernel_rfl) ?_
          refine dop rfl (Bstore hS hR rfl rfl (by rfl) info24 (by rfl) pkQ (by rfl) (Nat.le_of_ble_eq_true rfl) ?_); clear hR hR0; intro ww hR
          refine lend ?_
          refine wpAnyL_done (by kernel_rfl) ?_ _; try clear hR0
          try dsimp only [lay, List.set] at hR
          exact tail409 r44 c44 _ _ (hS.le (Le.cons rfl (Le.cons rfl (Le.cons rfl (Le.nil _))))) (hR.sub exQ)
        ·
          refine dop rfl (BbuildSlice hS hR rfl (bls24_1_0 _ _ _ _ _) (by decide) ?_); clear hS hR hR0; intro aa ww bb36 hS hR
          refine lnext (hR.sub exQ) ?_; intro hR0
          replace hR := hR.pk (r := blk bb36 _ _) pkQ
          replace hR := Sep.toRecs (m := 1) (sz := 5) (enc := eK) ([k]) hR rfl (by intro _; rfl) rfl
          refine lOne (i := 8) (by kernel_rfl) ?_
          refine dop rfl (BappendR (sz := 5) hS hR rfl rfl Try.underlying24 info34 rfl rfl (by rfl) pkQ (XC.upto pkQ (by intro _; rfl) (by omega)) (by intro _; rfl) (by show (_ + _) * 16 ≤ _; first | omega | (simp only [List.length_take, List.length_append, List.length_drop, List.length_cons, List.length_nil, List.length_map]; omega)) (by first | omega | (simp only [List.length_take, List.length_append, List.length_drop, List.length_cons, List.length_nil, List.length_map]; omega)) (by first | rfl | (simp; done) | (simp; omega)) (by decide) ?_); clear hS hR hR0; intro aa ww r34 c34 hS hR
          refine lnext (hR.sub exQ) ?_; intro hR0
          refine lOne (i := 11) (by kernel_rfl) ?_
          refine dop rfl (BappendR (sz := 5) hS hR rfl rfl Try.underlying24 info34 rfl rfl (by rfl) pkQ (XC.all pkQ) (by intro _; rfl) (by show (_ + _) * 16 ≤ _; first | omega | (simp only [List.length_take, List.length_append, List.length_drop, List.length_cons, List.length_nil, List.length_map]; omega)) (by first | omega | (simp only [List.length_take, List.length_append, List.length_drop, List.length_cons, List.length_nil, List.length_map]; omega)) (by first | rfl | (simp; done) | (simp; omega)) (by decide) ?_); clear hS hR hR0; intro aa ww r37 c37 hS hR
          refine lnext (hR.sub exQ) ?_; intro hR0
          refine lOne (i := 18) (by kernel_rfl) ?_
          refine dop rfl (BappendR (sz := 5) hS hR rfl rfl Try.underlying24 info34 rfl rfl (by rfl) pkQ (XC.part (r := r1) (lo := plc K k) pkQ (by intro _; rfl) (by rfl) (by omega)) (by intro _; rfl) (by show (_ + _) * 16 ≤ _; first | omega | (simp only [List.length_take, List.length_append, List.length_drop, List.length_cons, List.length_nil, List.length_map]; omega)) (by first | omega | (simp only [List.length_take, List.length_append, List.length_drop, List.length_cons, List.length_nil, List.length_map]; omega)) (by first | rfl | (simp; done) | (simp; omega)) (by decide) ?_); clear hS hR hR0; intro aa ww r44 c44 hS hR
          refine lnext (hR.sub exQ) ?_; intro hR0
          simp only [Int.toNat_natCast] at hS hR
          rw [put_keys hG hk hn vx] at hS hR
          refine lOne (i := 19) (by kernel_rfl) ?_
          refine dop rfl (BA hS hR (Yld.nilCheck hS rfl) (by decide) ?_); clear hS; intro aa hS; refine ⟨fun _ => hR0, ?_⟩
          refine lA 20 rfl (by kernel_rfl) (by kernel_rfl) (by kernel_rfl) (by kernel_rfl) (fun _ _ _ h => h) hS hR0 (Yld.fieldAddr hS rfl 1 Try.underlying58 rfl rfl info24 (by decide)) (by decide) ?_; clear hS; intro aa hS
          refine lOne (i := 21) (by kernel_rfl) ?_
          refine dop rfl (Bstore hS hR rfl rfl (by rfl) info24 (by rfl) pkQ (by rfl) (Nat.le_of_ble_eq_true rfl) ?_); clear hR hR0; intro ww hR
          refine lend ?_
          refine wpAnyL_done (by kernel_rfl) ?_ _; try clear hR0
          try dsimp only [lay, List.set] at hR
          exact tail409 r44 c44 _ _ (hS.le (Le.cons rfl (Le.cons rfl (Le.cons rfl (Le.nil _))))) (hR.sub exQ)
      ·
        refine dop rfl (BbuildSlice hS hR rfl (bls24_1_0 _ _ _ _ _) (by decide) ?_); clear hS hR hR0; intro aa ww bb36 hS hR
        refine lnext (hR.sub exQ) ?_; intro hR0
        replace hR := hR.pk (r := blk bb36 _ _) pkQ
        replace hR := Sep.toRecs (m := 1) (sz := 5) (enc := eK) ([k]) hR rfl (by intro _; rfl) rfl
        refine lOne (i := 1) (by kernel_rfl) ?_
        refine dop rfl (BbuildSlice hS hR rfl (bls24_0_) (by decide) ?_); clear hS hR hR0; intro aa ww bb27 hS hR
        refine lnext (hR.sub exQ) ?_; intro hR0
        replace hR := hR.pk (r := blk bb27 _ _) pkQ
        replace hR := Sep.toRecs (m := 0) (sz := 5) (enc := eK) (([] : List Ky)) hR rfl (by intro _; rfl) rfl
        refine lOne (i := 8) (by kernel_rfl) ?_
        refine dop rfl (BappendR (sz := 5) hS hR rfl rfl Try.underlying24 info34 rfl rfl (by rfl) pkQ (XC.upto pkQ (by intro _; rfl) (by omega)) (by intro _; rfl) (by show (_ + _) * 16 ≤ _; first | omega | (simp only [List.length_take, List.length_append, List.length_drop, List.length_cons, List.length_nil, List.length_map]; omega)) (by first | omega | (simp only [List.length_take, List.length_append, List.length_drop, List.length_cons, List.length_nil, List.length_map]; omega)) (by first | rfl | (simp; done) | (simp; omega)) (by decide) ?_); clear hS hR hR0; intro aa ww r34 c34 hS hR
        refine lnext (hR.sub exQ) ?_; intro hR0
        refine lOne (i := 11) (by kernel_rfl) ?_
        refine dop rfl (BappendR (sz := 5) hS hR rfl rfl Try.underlying24 info34 rfl rfl (by rfl) pkQ (XC.all pkQ) (by intro _; rfl) (by show (_ + _) * 16 ≤ _; first | omega | (simp only [List.length_take, List.length_append, List.length_drop, List.length_cons, List.length_nil, List.length_map]; omega)) (by first | omega | (simp only [List.length_take, List.length_append, List.length_drop, List.length_cons, List.length_nil, List.length_map]; omega)) (by first | rfl | (simp; done) | (simp; omega)) (by decide) ?_); clear hS hR hR0; intro aa ww r37 c37 hS hR
        refine lnext (hR.sub exQ) ?_; intro hR0
        refine lOne (i := 18) (by kernel_rfl) ?_
        refine dop rfl (BappendR (sz := 5) hS hR rfl rfl Try.underlying24 info34 rfl rfl (by rfl) pkQ (XC.part (r := r1) (lo := plc K k) pkQ (by intro _; rfl) (by rfl) (by omega)) (by intro _; rfl) (by show (_ + _) * 16 ≤ _; first | omega | (simp only [List.length_take, List.length_append, List.length_drop, List.length_cons, List.length_nil, List.length_map]; omega)) (by first | omega | (simp only [List.length_take, List.length_append, List.length_drop, List.length_cons, List.length_nil, List.length_map]; omega)) (by first | rfl | (simp; done) | (simp; omega)) (by decide) ?_); clear hS hR hR0; intro aa ww r44 c44 hS hR
        refine lnext (hR.sub exQ) ?_; intro hR0
        simp only [Int.toNat_natCast] at hS hR
        rw [put_keys hG hk hn vx] at hS hR
        refine lOne (i := 19) (by kernel_rfl) ?_
        refine dop rfl (BA hS hR (Yld.nilCheck hS rfl) (by decide) ?_); clear hS; intro aa hS; refine ⟨fun _ => hR0, ?_⟩
        refine lA 20 rfl (by kernel_rfl) (by kernel_rfl) (by kernel_rfl) (by kernel_rfl) (fun _ _ _ h => h) hS hR0 (Yld.fieldAddr hS rfl 1 Try.underlying58 rfl rfl info24 (by decide)) (by decide) ?_; clear hS; intro aa hS
        refine lOne (i := 21) (by kernel_rfl) ?_
        refine dop rfl (Bstore hS hR rfl rfl (by rfl) info24 (by rfl) pkQ (by rfl) (Nat.le_of_ble_eq_true rfl) ?_); clear hR hR0; intro ww hR
        refine lend ?_
        refine wpAnyL_done (by kernel_rfl) ?_ _; try clear hR0
        try dsimp only [lay, List.set] at hR
        exact tail409 r44 c44 _ _ (hS.le (Le.cons rfl (Le.cons rfl (Le.cons rfl (Le.nil _))))) (hR.sub exQ)
end Go.Proofs.Ytmcfmhiadlkglaa.Sx
