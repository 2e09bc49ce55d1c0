/-
  
-/
import Derived.Test.YthhndmlfgjcgpaaZRxA
import Derived.Test.YthhndmlfgjcgpaaZPa
namespace Go.Proofs.Ythhndmlfgjcgpaa.Sx
open Go
set_option maxRecDepth 20000
set_option linter.unusedVariables false
set_option linter.unusedSimpArgs false
theorem bls24_0_  (w : World) : (Instr.buildSlice 24 0 [].toArray).run Try.prog w = .ok (.slice (some ⟨w.heap.size, 0, none⟩) 0 0) (w.alloc (.cells ([] : List Value).toArray 35)) := by kernel_rfl
set_option maxHeartbeats 4000000 in
theorem place_ok {K : List (Ky × Int)} {most : Int} {k : Ky} {b : Nat} {l : List HP} {w : World} (hR : Sep (rtrA 183 35 3 b K most :: l) w) (hk : WfK k) : CallR Try.prog 99 [.pointer (some ⟨b, 0, none⟩), vK k] w (fun v w' => v = .tuple [.int .i64 ((plc K k : Nat) : Int), .bool (findV K k).isSome].toArray ∧ Sep (rtrA 183 35 3 b K most :: l) w') := by
  refine enter Try.func99 rfl Try.ntmps99 (Nat.le_of_ble_eq_true rfl) ?_; intro aa hS
  obtain ⟨r1, c1, r2, c2, hGK, hR⟩ := (hR.pk (r := rtrA _ _ _ b _ _) pkQ).rtrE
  have hG := hGK.good
  have hsl := hGK.slen
  have hvl := vals_len (K := K)
  have hcp1 := (hR.pk (r := sls r1 _ _ _ _ _) pkQ).slsLe.1
  have hcp2 := (hR.pk (r := sls r2 _ _ _ _ _) pkQ).slsLe.1
  refine wp_seq_k ?_; intro K927 hK927
  refine wp_region_lit ?_
  refine sB (Bbox hS hR rfl (by rfl) (by decide) ?_); clear hS hR; intro aa ww bb3 hS hR
  revert aa
  refine qN hR ?_
  refine qN hR ?_
  intro aa hS
  refine wpList_nil ?_
  refine hK927 _ _ ?_
  refine wp_seq_k ?_; intro K928 hK928
  refine wp_region_lit ?_
  revert aa
  refine qN hR ?_
  intro aa hS
  refine wpList_nil ?_
  refine hK928 _ _ ?_
  refine wp_seq_k ?_; intro K929 hK929
  refine wp_block ?_
  refine loopI (X := Nat) [(0, _), (3, _), (4, _), (5, _)] (fun x => [(6, .int .i64 (x : Int))]) (fun x => []) _ (fun x => ∃ h9 : x ≤ (srt K).length, ∀ j (hj : j < x), ltK ((srt K)[j]'(by omega)) k) (fun x => (srt K).length - x) 0 ⟨Nat.zero_le _, fun j h => by omega⟩ (hS.le (Le.cons rfl (Le.nilapp (Le.cons rfl (Le.cons rfl (Le.cons rfl (Le.cons rfl (Le.nil _)))))))) hR ?_
  clear hS hR; rintro j aa ww hI hS hR; dsimp only [List.cons_append, List.nil_append] at hI hS hR
  obtain ⟨hI0, hI1⟩ := hI
  have hI : j ≤ (srt K).length ∧ ∀ i (hi : i < j), ltK ((srt K)[i]'(by omega)) k := ⟨hI0, hI1⟩
  refine wp_seq_k ?_; intro K931 hK931
  refine wp_seq_k ?_; intro K932 hK932
  refine drawn krQ hR Ex.refl ?_; clear hR; intro ww hR hR0
  revert aa
  refine eA 0 rfl krQ (fun _ _ _ h => h) hR0 rfl (fun _ hS => Yld.move hS rfl) ?_
  refine eA 1 rfl krQ (fun _ _ _ h => h) hR0 rfl (fun _ hS => Yld.move hS rfl) ?_
  refine eA 2 rfl krQ (fun _ _ _ h => h) hR0 rfl (fun _ hS => Yld.nilCheck hS rfl) ?_
  refine eA 3 rfl krQ (fun _ _ _ h => h) hR0 rfl (fun _ hS => Yld.fieldAddr hS rfl 1 Try.underlying183 rfl rfl info24 (by decide)) ?_
  refine eA 4 rfl krQ (fun _ _ _ h => h) hR0 rfl (fun _ hS => Yld.load1 hS rfl Try.underlying24 rfl rdQ) ?_
  refine eA 5 rfl krQ (fun _ _ _ h => h) hR0 rfl (fun _ hS => Yld.len hS rfl Try.underlying24) ?_
  refine eA 6 rfl krQ (fun _ _ _ h => h) hR0 rfl (fun _ hS => Yld.lss hS rfl rfl) ?_
  refine eA 7 rfl krQ (fun _ _ _ h => h) hR0 rfl (fun _ hS => Yld.move hS rfl) ?_
  intro aa hS
  refine hS.splitB (t := 14) rfl ?_ ?_ <;> clear hS
  · intro hg hS
    revert aa
    refine eAg 8 rfl krQ (fun _ _ _ h => h) hR0 rfl rfl rfl (fun _ hS => Yld.move hS rfl) ?_
    refine eAg 9 rfl krQ (fun _ _ _ h => h) hR0 rfl rfl rfl (fun _ hS => Yld.nilCheck hS rfl) ?_
    refine eAg 10 rfl krQ (fun _ _ _ h => h) hR0 rfl rfl rfl (fun _ hS => Yld.fieldAddr hS rfl 1 Try.underlying183 rfl rfl info24 (by decide)) ?_
    refine eAg 11 rfl krQ (fun _ _ _ h => h) hR0 rfl rfl rfl (fun _ hS => Yld.load1 hS rfl Try.underlying24 rfl rdQ) ?_
    refine eAg 12 rfl krQ (fun _ _ _ h => h) hR0 rfl rfl rfl (fun _ hS => Yld.move hS rfl) ?_
    refine eAg 13 rfl krQ (fun _ _ _ h => h) hR0 rfl rfl rfl (fun _ hS => ilQ 5 (j) Try.underlying24 info35) ?_
    intro aa hS
    refine dAg 14 rfl krQ krQ krQ (fun _ _ _ h => h) hS rfl rfl hR0 (Yld.loadAgg hS rfl Try.underlying35 rfl info35 rdsQ5 (by rfl)) (by decide) ?_; clear hS; intro aa hS
    obtain ⟨y0, y0e⟩ : ∃ y : Ky, (srt K)[j] = y := ⟨_, rfl⟩
    have hy0 := (has_get hG (by omega) y0e).2
    replace hS := hS.say (t := 21) (vK y0) rfl (by rw [y0e])
    refine dAg 15 rfl krQ krQ krQ (fun _ _ _ h => h) hS rfl rfl hR0 (Yld.loadAgg hS rfl Try.underlying35 rfl info35 rdsQ5 (by rfl)) (by decide) ?_; clear hS; intro aa hS
    refine dOne (i := 16) krQ ?_
    refine dopg rfl hS rfl rfl (Bcall hS rfl Try.call100 (before_ok (a := y0) (b := k) hR hy0 hk) (by decide) ?_); clear hS; intro aa ww vv hS hp
    clear hR hR0
    obtain ⟨rfl, hR⟩ := hp
    refine dnext (hR.sub exQ) ?_; intro hR0
    revert aa
    refine eA 17 rfl krQ (fun _ _ _ h => h) hR0 rfl (fun _ hS => Yld.pickT hS rfl rfl) ?_
    intro aa hS
    refine wpAnyH_done krQ ?_ _; clear hR0
    refine hK932 _ _ ?_
    refine hS.splitB (t := 24) rfl ?_ ?_ <;> clear hS
    · intro hg hS
      have hlt : ltK (srt K)[j] k := by rw [y0e]; exact ltK_iff.2 hg
      refine condT hS rfl ?_
      refine wp_skip ?_
      refine hK931 _ _ ?_
      refine wp_block ?_
      refine wp_region_lit ?_
      revert aa
      refine qM hR ?_
      intro aa hS
      refine sA hS hR adQ (by decide) ?_; clear hS; intro aa hS
      revert aa
      refine qN hR ?_
      intro aa hS
      refine wpList_nil ?_
      refine ⟨j + 1, ?_, ?_, hS.le (Le.cons rfl (Le.nilapp (Le.cons rfl (Le.cons rfl (Le.cons rfl (Le.cons rfl (Le.nil _))))))), hR.sub (Ex.nilapp exQ)⟩
      · exact ⟨by omega, fun i hi => by
          by_cases e : i = j
          · subst e; exact hlt
          · exact hI1 i (by omega)⟩
      · omega
    · intro hg hS
      have hpl : plc K k = j := plc_uniq hI.1 hI.2 (fun h h9 => by rw [y0e] at h9; exact hg (ltK_iff.1 h9))
      subst hpl
      refine condF hS rfl ?_
      refine wp_exit ?_
      refine hK929 _ _ ?_
      refine wp_seq_k ?_; intro K933 hK933
      refine drawn krQ hR Ex.refl ?_; clear hR; intro ww hR hR0
      revert aa
      refine eA 0 rfl krQ (fun _ _ _ h => h) hR0 rfl (fun _ hS => Yld.move hS rfl) ?_
      refine eA 1 rfl krQ (fun _ _ _ h => h) hR0 rfl (fun _ hS => Yld.move hS rfl) ?_
      refine eA 2 rfl krQ (fun _ _ _ h => h) hR0 rfl (fun _ hS => Yld.move hS rfl) ?_
      refine eA 3 rfl krQ (fun _ _ _ h => h) hR0 rfl (fun _ hS => Yld.nilCheck hS rfl) ?_
      refine eA 4 rfl krQ (fun _ _ _ h => h) hR0 rfl (fun _ hS => Yld.fieldAddr hS rfl 1 Try.underlying183 rfl rfl info24 (by decide)) ?_
      refine eA 5 rfl krQ (fun _ _ _ h => h) hR0 rfl (fun _ hS => Yld.load1 hS rfl Try.underlying24 rfl rdQ) ?_
      refine eA 6 rfl krQ (fun _ _ _ h => h) hR0 rfl (fun _ hS => Yld.len hS rfl Try.underlying24) ?_
      refine eA 7 rfl krQ (fun _ _ _ h => h) hR0 rfl (fun _ hS => Yld.lss hS rfl rfl) ?_
      refine eA 8 rfl krQ (fun _ _ _ h => h) hR0 rfl (fun _ hS => Yld.move hS rfl) ?_
      intro aa hS
      refine hS.splitB (t := 35) rfl ?_ ?_ <;> clear hS
      · intro hg hS
        revert aa
        refine eAg 9 rfl krQ (fun _ _ _ h => h) hR0 rfl rfl rfl (fun _ hS => Yld.move hS rfl) ?_
        refine eAg 10 rfl krQ (fun _ _ _ h => h) hR0 rfl rfl rfl (fun _ hS => Yld.nilCheck hS rfl) ?_
        refine eAg 11 rfl krQ (fun _ _ _ h => h) hR0 rfl rfl rfl (fun _ hS => Yld.fieldAddr hS rfl 1 Try.underlying183 rfl rfl info24 (by decide)) ?_
        refine eAg 12 rfl krQ (fun _ _ _ h => h) hR0 rfl rfl rfl (fun _ hS => Yld.load1 hS rfl Try.underlying24 rfl rdQ) ?_
        refine eAg 13 rfl krQ (fun _ _ _ h => h) hR0 rfl rfl rfl (fun _ hS => Yld.move hS rfl) ?_
        refine eAg 14 rfl krQ (fun _ _ _ h => h) hR0 rfl rfl rfl (fun _ hS => ilQ 5 (plc K k) Try.underlying24 info35) ?_
        intro aa hS
        refine dAg 15 rfl krQ krQ krQ (fun _ _ _ h => h) hS rfl rfl hR0 (Yld.loadAgg hS rfl Try.underlying35 rfl info35 rdsQ5 (by rfl)) (by decide) ?_; clear hS; intro aa hS
        obtain ⟨y1, y1e⟩ : ∃ y : Ky, (srt K)[plc K k] = y := ⟨_, rfl⟩
        have hy1 := (has_get hG (by omega) y1e).2
        replace hS := hS.say (t := 42) (vK y1) rfl (by rw [y1e])
        refine dAg 16 rfl krQ krQ krQ (fun _ _ _ h => h) hS rfl rfl hR0 (Yld.loadAgg hS rfl Try.underlying35 rfl info35 rdsQ5 (by rfl)) (by decide) ?_; clear hS; intro aa hS
        revert aa
        refine eAg 17 rfl krQ (fun _ _ _ h => h) hR0 rfl rfl rfl (fun _ hS => Yld.binRun hS rfl rfl (eql35 _ _ _ _ _ _ _ _ _ _ _ _)) ?_
        refine eA 18 rfl krQ (fun _ _ _ h => h) hR0 rfl (fun _ hS => Yld.pickT hS rfl rfl) ?_
        refine eA 19 rfl krQ (fun _ _ _ h => h) hR0 rfl (fun _ hS => Yld.assign hS rfl) ?_
        refine eA 20 rfl krQ (fun _ _ _ h => h) hR0 rfl (fun _ hS => Yld.assign hS rfl) ?_
        intro aa hS
        refine wpAnyH_done krQ ?_ _; clear hR0
        refine hK933 _ _ ?_
        refine wp_ret ?_
        repeat first | with_reducible refine thenR ?_ | with_reducible refine blockR ?_ | with_reducible refine scopeR ?_
        refine retN (fn := Try.f99) (e := .ret) (.inl rfl) Try.results99 hS hR ⟨_, .cons (.tmp rfl) (.cons (.tmp rfl) (.nil)), rfl, ?_⟩
        refine ⟨?_, Sep.rtrI (TR := 183) (TK := 35) (TI := 3) (b := b) (K := K) (most := most) hGK rfl rfl rfl rfl (hR.sub exQ)⟩
        first
          | (rw [findV_no hno]; rfl)
          | (congr 3
             have hiff := plc_is hG hk
             by_cases hh : has K k
             · rw [findV_some.2 hh]; obtain ⟨h8, h9⟩ := hiff.2 hh; rw [y1e] at h9; subst h9; simp
             · rw [findV_no hh]; have h8 : ¬ y1 = k := fun e => hh (hiff.1 ⟨by omega, y1e.trans e⟩); obtain ⟨a1, a2, a3, a4, a5⟩ := y1; obtain ⟨b1, b2, b3, b4, b5⟩ := k; simpa using h8)
      · intro hg hS
        have hno : ¬ has K k := fun h => by obtain ⟨h9, _⟩ := (plc_is hG hk).2 h; omega
        revert aa
        refine eZ 9 rfl hR0 ?_
        refine eZ 10 rfl hR0 ?_
        refine eZ 11 rfl hR0 ?_
        refine eZ 12 rfl hR0 ?_
        refine eZ 13 rfl hR0 ?_
        refine eZ 14 rfl hR0 ?_
        refine eZ 15 rfl hR0 ?_
        refine eZ 16 rfl hR0 ?_
        refine eZ 17 rfl hR0 ?_
        refine eA 18 rfl krQ (fun _ _ _ h => h) hR0 rfl (fun _ hS => Yld.pickF hS rfl rfl) ?_
        refine eA 19 rfl krQ (fun _ _ _ h => h) hR0 rfl (fun _ hS => Yld.assign hS rfl) ?_
        refine eA 20 rfl krQ (fun _ _ _ h => h) hR0 rfl (fun _ hS => Yld.assign hS rfl) ?_
        intro aa hS
        refine wpAnyH_done krQ ?_ _; clear hR0
        refine hK933 _ _ ?_
        refine wp_ret ?_
        repeat first | with_reducible refine thenR ?_ | with_reducible refine blockR ?_ | with_reducible refine scopeR ?_
        refine retN (fn := Try.f99) (e := .ret) (.inl rfl) Try.results99 hS hR ⟨_, .cons (.tmp rfl) (.cons (.tmp rfl) (.nil)), rfl, ?_⟩
        refine ⟨?_, Sep.rtrI (TR := 183) (TK := 35) (TI := 3) (b := b) (K := K) (most := most) hGK rfl rfl rfl rfl (hR.sub exQ)⟩
        first
          | (rw [findV_no hno]; rfl)
          | (congr 3
             have hiff := plc_is hG hk
             by_cases hh : has K k
             · rw [findV_some.2 hh]; obtain ⟨h8, h9⟩ := hiff.2 hh; rw [y1e] at h9; subst h9; simp
             · rw [findV_no hh]; have h8 : ¬ y1 = k := fun e => hh (hiff.1 ⟨by omega, y1e.trans e⟩); obtain ⟨a1, a2, a3, a4, a5⟩ := y1; obtain ⟨b1, b2, b3, b4, b5⟩ := k; simpa using h8)
  · intro hg hS
    have hpl : plc K k = j := plc_uniq hI.1 hI.2 (fun h => by omega)
    subst hpl
    revert aa
    refine eZ 8 rfl hR0 ?_
    refine eZ 9 rfl hR0 ?_
    refine eZ 10 rfl hR0 ?_
    refine eZ 11 rfl hR0 ?_
    refine eZ 12 rfl hR0 ?_
    refine eZ 13 rfl hR0 ?_
    refine eZ 14 rfl hR0 ?_
    refine eZ 15 rfl hR0 ?_
    refine eZ 16 rfl hR0 ?_
    refine eA 17 rfl krQ (fun _ _ _ h => h) hR0 rfl (fun _ hS => Yld.pickF hS rfl rfl) ?_
    intro aa hS
    refine wpAnyH_done krQ ?_ _; clear hR0
    refine hK932 _ _ ?_
    refine condF hS rfl ?_
    refine wp_exit ?_
    refine hK929 _ _ ?_
    refine wp_seq_k ?_; intro K934 hK934
    refine drawn krQ hR Ex.refl ?_; clear hR; intro ww hR hR0
    revert aa
    refine eA 0 rfl krQ (fun _ _ _ h => h) hR0 rfl (fun _ hS => Yld.move hS rfl) ?_
    refine eA 1 rfl krQ (fun _ _ _ h => h) hR0 rfl (fun _ hS => Yld.move hS rfl) ?_
    refine eA 2 rfl krQ (fun _ _ _ h => h) hR0 rfl (fun _ hS => Yld.move hS rfl) ?_
    refine eA 3 rfl krQ (fun _ _ _ h => h) hR0 rfl (fun _ hS => Yld.nilCheck hS rfl) ?_
    refine eA 4 rfl krQ (fun _ _ _ h => h) hR0 rfl (fun _ hS => Yld.fieldAddr hS rfl 1 Try.underlying183 rfl rfl info24 (by decide)) ?_
    refine eA 5 rfl krQ (fun _ _ _ h => h) hR0 rfl (fun _ hS => Yld.load1 hS rfl Try.underlying24 rfl rdQ) ?_
    refine eA 6 rfl krQ (fun _ _ _ h => h) hR0 rfl (fun _ hS => Yld.len hS rfl Try.underlying24) ?_
    refine eA 7 rfl krQ (fun _ _ _ h => h) hR0 rfl (fun _ hS => Yld.lss hS rfl rfl) ?_
    refine eA 8 rfl krQ (fun _ _ _ h => h) hR0 rfl (fun _ hS => Yld.move hS rfl) ?_
    intro aa hS
    refine hS.splitB (t := 35) rfl ?_ ?_ <;> clear hS
    · intro hg hS
      revert aa
      refine eAg 9 rfl krQ (fun _ _ _ h => h) hR0 rfl rfl rfl (fun _ hS => Yld.move hS rfl) ?_
      refine eAg 10 rfl krQ (fun _ _ _ h => h) hR0 rfl rfl rfl (fun _ hS => Yld.nilCheck hS rfl) ?_
      refine eAg 11 rfl krQ (fun _ _ _ h => h) hR0 rfl rfl rfl (fun _ hS => Yld.fieldAddr hS rfl 1 Try.underlying183 rfl rfl info24 (by decide)) ?_
      refine eAg 12 rfl krQ (fun _ _ _ h => h) hR0 rfl rfl rfl (fun _ hS => Yld.load1 hS rfl Try.underlying24 rfl rdQ) ?_
      refine eAg 13 rfl krQ (fun _ _ _ h => h) hR0 rfl rfl rfl (fun _ hS => Yld.move hS rfl) ?_
      refine eAg 14 rfl krQ (fun _ _ _ h => h) hR0 rfl rfl rfl (fun _ hS => ilQ 5 (plc K k) Try.underlying24 info35) ?_
      intro aa hS
      refine dAg 15 rfl krQ krQ krQ (fun _ _ _ h => h) hS rfl rfl hR0 (Yld.loadAgg hS rfl Try.underlying35 rfl info35 rdsQ5 (by rfl)) (by decide) ?_; clear hS; intro aa hS
      obtain ⟨y1, y1e⟩ : ∃ y : Ky, (srt K)[plc K k] = y := ⟨_, rfl⟩
      have hy1 := (has_get hG (by omega) y1e).2
      replace hS := hS.say (t := 42) (vK y1) rfl (by rw [y1e])
      refine dAg 16 rfl krQ krQ krQ (fun _ _ _ h => h) hS rfl rfl hR0 (Yld.loadAgg hS rfl Try.underlying35 rfl info35 rdsQ5 (by rfl)) (by decide) ?_; clear hS; intro aa hS
      revert aa
      refine eAg 17 rfl krQ (fun _ _ _ h => h) hR0 rfl rfl rfl (fun _ hS => Yld.binRun hS rfl rfl (eql35 _ _ _ _ _ _ _ _ _ _ _ _)) ?_
      refine eA 18 rfl krQ (fun _ _ _ h => h) hR0 rfl (fun _ hS => Yld.pickT hS rfl rfl) ?_
      refine eA 19 rfl krQ (fun _ _ _ h => h) hR0 rfl (fun _ hS => Yld.assign hS rfl) ?_
      refine eA 20 rfl krQ (fun _ _ _ h => h) hR0 rfl (fun _ hS => Yld.assign hS rfl) ?_
      intro aa hS
      refine wpAnyH_done krQ ?_ _; clear hR0
      refine hK934 _ _ ?_
      refine wp_ret ?_
      repeat first | with_reducible refine thenR ?_ | with_reducible refine blockR ?_ | with_reducible refine scopeR ?_
      refine retN (fn := Try.f99) (e := .ret) (.inl rfl) Try.results99 hS hR ⟨_, .cons (.tmp rfl) (.cons (.tmp rfl) (.nil)), rfl, ?_⟩
      refine ⟨?_, Sep.rtrI (TR := 183) (TK := 35) (TI := 3) (b := b) (K := K) (most := most) hGK rfl rfl rfl rfl (hR.sub exQ)⟩
      first
        | (rw [findV_no hno]; rfl)
        | (congr 3
           have hiff := plc_is hG hk
           by_cases hh : has K k
           · rw [findV_some.2 hh]; obtain ⟨h8, h9⟩ := hiff.2 hh; rw [y1e] at h9; subst h9; simp
           · rw [findV_no hh]; have h8 : ¬ y1 = k := fun e => hh (hiff.1 ⟨by omega, y1e.trans e⟩); obtain ⟨a1, a2, a3, a4, a5⟩ := y1; obtain ⟨b1, b2, b3, b4, b5⟩ := k; simpa using h8)
    · intro hg hS
      have hno : ¬ has K k := fun h => by obtain ⟨h9, _⟩ := (plc_is hG hk).2 h; omega
      revert aa
      refine eZ 9 rfl hR0 ?_
      refine eZ 10 rfl hR0 ?_
      refine eZ 11 rfl hR0 ?_
      refine eZ 12 rfl hR0 ?_
      refine eZ 13 rfl hR0 ?_
      refine eZ 14 rfl hR0 ?_
      refine eZ 15 rfl hR0 ?_
      refine eZ 16 rfl hR0 ?_
      refine eZ 17 rfl hR0 ?_
      refine eA 18 rfl krQ (fun _ _ _ h => h) hR0 rfl (fun _ hS => Yld.pickF hS rfl rfl) ?_
      refine eA 19 rfl krQ (fun _ _ _ h => h) hR0 rfl (fun _ hS => Yld.assign hS rfl) ?_
      refine eA 20 rfl krQ (fun _ _ _ h => h) hR0 rfl (fun _ hS => Yld.assign hS rfl) ?_
      intro aa hS
      refine wpAnyH_done krQ ?_ _; clear hR0
      refine hK934 _ _ ?_
      refine wp_ret ?_
      repeat first | with_reducible refine thenR ?_ | with_reducible refine blockR ?_ | with_reducible refine scopeR ?_
      refine retN (fn := Try.f99) (e := .ret) (.inl rfl) Try.results99 hS hR ⟨_, .cons (.tmp rfl) (.cons (.tmp rfl) (.nil)), rfl, ?_⟩
      refine ⟨?_, Sep.rtrI (TR := 183) (TK := 35) (TI := 3) (b := b) (K := K) (most := most) hGK rfl rfl rfl rfl (hR.sub exQ)⟩
      first
        | (rw [findV_no hno]; rfl)
        | (congr 3
           have hiff := plc_is hG hk
           by_cases hh : has K k
           · rw [findV_some.2 hh]; obtain ⟨h8, h9⟩ := hiff.2 hh; rw [y1e] at h9; subst h9; simp
           · rw [findV_no hh]; have h8 : ¬ y1 = k := fun e => hh (hiff.1 ⟨by omega, y1e.trans e⟩); obtain ⟨a1, a2, a3, a4, a5⟩ := y1; obtain ⟨b1, b2, b3, b4, b5⟩ := k; simpa using h8)
set_option maxHeartbeats 4000000 in
theorem RPut_ok {K : List (Ky × Int)} {most : Int} {k : Ky} {b : Nat} {l : List HP} {w : World} {vx : Int} (hR : Sep (rtrA 183 35 3 b K most :: l) w) (hk : WfK k) : CallR Try.prog 97 [.pointer (some ⟨b, 0, none⟩), vK k, .int .i64 vx] w (fun v w' => v = .int .i64 (putE K k most) ∧ Sep (rtrA 183 35 3 b (putK K k vx most) most :: l) w') := by
  refine enter Try.func97 rfl Try.ntmps97 (Nat.le_of_ble_eq_true rfl) ?_; intro aa hS
  refine wp_seq_k ?_; intro K935 hK935
  refine wp_region_lit ?_
  refine sB (Bbox hS hR rfl (by rfl) (by decide) ?_); clear hS hR; intro aa ww bb4 hS hR
  revert aa
  refine qN hR ?_
  intro aa hS
  refine wpList_nil ?_
  refine hK935 _ _ ?_
  refine wp_seq_k ?_; intro K936 hK936
  refine wp_region_lit ?_
  revert aa
  refine qM hR ?_
  intro aa hS
  refine sA hS hR (Yld.loadAgg hS rfl Try.underlying35 rfl info35 rdsQ5 (by rfl)) (by decide) ?_; clear hS; intro aa hS
  refine sB (Bcall hS rfl Try.call99 (place_ok (K := K) (most := most) (hR.pk (r := rtrA _ _ _ b _ _) pkQ) hk) (by decide) ?_); clear hS; intro aa ww vv hS hp
  clear hR
  obtain ⟨rfl, hR⟩ := hp
  revert aa
  refine qM hR ?_
  refine qX hR ?_
  refine qX hR ?_
  refine qN hR ?_
  refine qN hR ?_
  intro aa hS
  refine wpList_nil ?_
  refine hK936 _ _ ?_
  refine wp_seq_k ?_; intro K937 hK937
  refine wp_seq_k ?_; intro K938 hK938
  refine wp_region_lit ?_
  revert aa
  refine qM hR ?_
  intro aa hS
  refine wpList_nil ?_
  refine hK938 _ _ ?_
  refine hS.splitB (t := 15) rfl ?_ ?_ <;> clear hS
  · intro hg hS
    have hh : has K k := findV_some.1 hg
    refine condT hS rfl ?_
    refine wp_seq_k ?_; intro K939 hK939
    refine wp_region_lit ?_
    revert aa
    refine qN hR ?_
    intro aa hS
    refine wpList_nil ?_
    refine hK939 _ _ ?_
    refine wp_ret ?_
    repeat first | with_reducible refine thenR ?_ | with_reducible refine blockR ?_ | with_reducible refine scopeR ?_
    refine ret1 (fn := Try.f97) (e := .ret) (.inl rfl) Try.results97 hS hR ⟨_, (.tmp rfl), ?_⟩
    rw [putE_has hh, putK_has hh]
    exact ⟨rfl, (hR.sub exQ)⟩
  · intro hg hS
    have hn : ¬ has K k := fun h => by rw [findV_some.2 h] at hg; cases hg
    obtain ⟨r1, c1, r2, c2, hGK, hR⟩ := (hR.pk (r := rtrA _ _ _ b _ _) pkQ).rtrE
    have hG := hGK.good
    have hsl := hGK.slen
    have hvl := vals_len (K := K)
    have hcp1 := (hR.pk (r := sls r1 _ _ _ _ _) pkQ).slsLe.1
    have hcp2 := (hR.pk (r := sls r2 _ _ _ _ _) pkQ).slsLe.1
    have hpl := plc_le (K := K) (k := k)
    have hle := hGK.le
    have hsK := srt_len hG
    have hmo := hGK.most
    refine condF hS rfl ?_
    refine wp_skip ?_
    refine hK937 _ _ ?_
    refine wp_seq_k ?_; intro K940 hK940
    refine wp_seq_k ?_; intro K941 hK941
    refine drawn krQ hR Ex.refl ?_; clear hR; intro ww hR hR0
    revert aa
    refine eA 0 rfl krQ (fun _ _ _ h => h) hR0 rfl (fun _ hS => Yld.move hS rfl) ?_
    refine eA 1 rfl krQ (fun _ _ _ h => h) hR0 rfl (fun _ hS => Yld.nilCheck hS rfl) ?_
    refine eA 2 rfl krQ (fun _ _ _ h => h) hR0 rfl (fun _ hS => Yld.fieldAddr hS rfl 1 Try.underlying183 rfl rfl info24 (by decide)) ?_
    refine eA 3 rfl krQ (fun _ _ _ h => h) hR0 rfl (fun _ hS => Yld.load1 hS rfl Try.underlying24 rfl rdQ) ?_
    refine eA 4 rfl krQ (fun _ _ _ h => h) hR0 rfl (fun _ hS => Yld.len hS rfl Try.underlying24) ?_
    refine eA 5 rfl krQ (fun _ _ _ h => h) hR0 rfl (fun _ hS => Yld.move hS rfl) ?_
    refine eA 6 rfl krQ (fun _ _ _ h => h) hR0 rfl (fun _ hS => Yld.nilCheck hS rfl) ?_
    refine eA 7 rfl krQ (fun _ _ _ h => h) hR0 rfl (fun _ hS => Yld.fieldAddr hS rfl 0 Try.underlying183 rfl rfl info3 (by decide)) ?_
    refine eA 8 rfl krQ (fun _ _ _ h => h) hR0 rfl (fun _ hS => Yld.load1 hS rfl Try.underlying3 rfl rdQ) ?_
    refine eA 9 rfl krQ (fun _ _ _ h => h) hR0 rfl (fun _ hS => Yld.eql hS rfl rfl) ?_
    intro aa hS
    refine wpAnyH_done krQ ?_ _; clear hR0
    refine hK941 _ _ ?_
    refine hS.splitB (t := 25) rfl ?_ ?_ <;> clear hS
    · intro hg hS
      have hfu : (K.length : Int) = most := by omega
      refine condT hS rfl ?_
      refine wp_seq_k ?_; intro K942 hK942
      refine wp_region_lit ?_
      revert aa
      refine qN hR ?_
      intro aa hS
      refine wpList_nil ?_
      refine hK942 _ _ ?_
      refine wp_ret ?_
      repeat first | with_reducible refine thenR ?_ | with_reducible refine blockR ?_ | with_reducible refine scopeR ?_
      refine ret1 (fn := Try.f97) (e := .ret) (.inl rfl) Try.results97 hS hR ⟨_, (.tmp rfl), ?_⟩
      rw [putE_full hn hfu, putK_full hn hfu]
      exact ⟨rfl, Sep.rtrI (TR := 183) (TK := 35) (TI := 3) (b := b) (K := K) (most := most) hGK rfl rfl rfl rfl (hR.sub exQ)⟩
    · intro hg hS
      have hnf : (K.length : Int) < most := by omega
      refine condF hS rfl ?_
      refine wp_skip ?_
      refine hK940 _ _ ?_
      refine wp_seq_k ?_; intro K943 hK943
      have tail943 : ∀ (r44 : Option Addr) (c44 : Nat) (aa : Act) (ww : World), Has 68 aa [(0, .pointer (some ⟨b, 0, none⟩)), (2, .int .i64 vx), (7, .int .i64 ((plc K k : Nat) : Int))] → Sep (blk b [.int .i64 most, .slice r44 (srt (K ++ [(k, vx)])).length c44, .slice r2 (vals K).length c2] 183 :: sls r44 (srt (K ++ [(k, vx)])).length c44 35 5 ((srt (K ++ [(k, vx)])).flatMap eK) :: sls r2 (vals K).length c2 3 1 ((vals K).flatMap e1) :: l) ww → K943 aa ww := by
        clear hS hR; intro r44 c44 aa ww hS hR
        refine hK943 _ _ ?_
        refine wp_seq_k ?_; intro K944 hK944
        have tail944 : ∀ (r65 : Option Addr) (c65 : Nat) (aa : Act) (ww : World), Has 68 aa [] → Sep (blk b [.int .i64 most, .slice r44 (srt (K ++ [(k, vx)])).length c44, .slice r65 (vals (K ++ [(k, vx)])).length c65] 183 :: sls r44 (srt (K ++ [(k, vx)])).length c44 35 5 ((srt (K ++ [(k, vx)])).flatMap eK) :: sls r65 (vals (K ++ [(k, vx)])).length c65 3 1 ((vals (K ++ [(k, vx)])).flatMap e1) :: l) ww → K944 aa ww := by
          clear hS hR; intro r65 c65 aa ww hS hR
          refine hK944 _ _ ?_
          refine wp_seq_k ?_; intro K945 hK945
          refine wp_region_lit ?_
          revert aa
          refine qN hR ?_
          intro aa hS
          refine wpList_nil ?_
          refine hK945 _ _ ?_
          refine wp_ret ?_
          repeat first | with_reducible refine thenR ?_ | with_reducible refine blockR ?_ | with_reducible refine scopeR ?_
          refine ret1 (fn := Try.f97) (e := .ret) (.inl rfl) Try.results97 hS hR ⟨_, (.tmp rfl), ?_⟩
          rw [putE_new hn hnf, putK_new hn hnf]
          have hGK2 := hGK.put hk vx
          rw [putK_new hn hnf] at hGK2
          exact ⟨rfl, Sep.rtrI (TR := 183) (TK := 35) (TI := 3) (b := b) (K := (K ++ [(k, vx)])) (most := most) hGK2 rfl rfl rfl rfl (hR.sub exQ)⟩
        refine drawnL 21 krQ hR ?_; clear hR; intro ww hR; have hR0 := hR
        refine lA 0 rfl krQ krQ krQ krQ (fun _ _ _ h => h) hS hR0 (Yld.move hS rfl) (by decide) ?_; clear hS; intro aa hS
        refine lA 2 rfl krQ krQ krQ krQ (fun _ _ _ h => h) hS hR0 (Yld.move hS rfl) (by decide) ?_; clear hS; intro aa hS
        refine lA 3 rfl krQ krQ krQ krQ (fun _ _ _ h => h) hS hR0 (Yld.nilCheck hS rfl) (by decide) ?_; clear hS; intro aa hS
        refine lA 4 rfl krQ krQ krQ krQ (fun _ _ _ h => h) hS hR0 (Yld.fieldAddr hS rfl 2 Try.underlying183 rfl rfl info58 (by decide)) (by decide) ?_; clear hS; intro aa hS
        refine lA 5 rfl krQ krQ krQ krQ (fun _ _ _ h => h) hS hR0 (Yld.load1 hS rfl Try.underlying58 rfl rdQ) (by decide) ?_; clear hS; intro aa hS
        refine lA 6 rfl krQ krQ krQ krQ (fun _ _ _ h => h) hS hR0 (Yld.move hS rfl) (by decide) ?_; clear hS; intro aa hS
        refine lA 7 rfl krQ krQ krQ krQ (fun _ _ _ h => h) hS hR0 (Yld.sliceHi hS rfl rfl Try.underlying58 info3 (by omega) (by omega)) (by decide) ?_; clear hS; intro aa hS
        refine lA 9 rfl krQ krQ krQ krQ (fun _ _ _ h => h) hS hR0 (Yld.move hS rfl) (by decide) ?_; clear hS; intro aa hS
        refine lA 12 rfl krQ krQ krQ krQ (fun _ _ _ h => h) hS hR0 (Yld.move hS rfl) (by decide) ?_; clear hS; intro aa hS
        refine lA 13 rfl krQ krQ krQ krQ (fun _ _ _ h => h) hS hR0 (Yld.nilCheck hS rfl) (by decide) ?_; clear hS; intro aa hS
        refine lA 14 rfl krQ krQ krQ krQ (fun _ _ _ h => h) hS hR0 (Yld.fieldAddr hS rfl 2 Try.underlying183 rfl rfl info58 (by decide)) (by decide) ?_; clear hS; intro aa hS
        refine lA 15 rfl krQ krQ krQ krQ (fun _ _ _ h => h) hS hR0 (Yld.load1 hS rfl Try.underlying58 rfl rdQ) (by decide) ?_; clear hS; intro aa hS
        refine lA 16 rfl krQ krQ krQ krQ (fun _ _ _ h => h) hS hR0 (Yld.move hS rfl) (by decide) ?_; clear hS; intro aa hS
        refine lA 17 rfl krQ krQ krQ krQ (fun _ _ _ h => h) hS hR0 (Yld.sliceLo hS rfl rfl Try.underlying58 info3 (by omega) (by omega)) (by decide) ?_; clear hS; intro aa hS
        refine lTwo (i := 1) (j := 10) krQ ?_ ?_
        ·
          refine dop rfl (BbuildSlice hS hR rfl (bls58_0_) (by decide) ?_); clear hS hR hR0; intro aa ww bb48 hS hR
          refine lnext (hR.sub exQ) ?_; intro hR0
          replace hR := hR.pk (r := blk bb48 _ _) pkQ
          replace hR := Sep.toRecs (m := 0) (sz := 1) (enc := e1) (([] : List Int)) hR rfl (by intro _; rfl) rfl
          refine lTwo (i := 8) (j := 10) krQ ?_ ?_
          ·
            refine dop rfl (BappendR (sz := 1) hS hR rfl rfl Try.underlying58 info3 rfl rfl (by rfl) pkQ (XC.upto pkQ (by intro _; rfl) (by omega)) (by intro _; rfl) (by show (_ + _) * 8 ≤ _; exact lenQ) lenQ (by first | rfl | (simp; done) | (simp; omega)) (by decide) ?_); clear hS hR hR0; intro aa ww r55 c55 hS hR
            refine lnext (hR.sub exQ) ?_; intro hR0
            refine lOne (i := 10) krQ ?_
            refine dop rfl (BbuildSlice hS hR rfl (bls58_1_0 _) (by decide) ?_); clear hS hR hR0; intro aa ww bb57 hS hR
            refine lnext (hR.sub exQ) ?_; intro hR0
            replace hR := hR.pk (r := blk bb57 _ _) pkQ
            replace hR := Sep.toRecs (m := 1) (sz := 1) (enc := e1) ([vx]) hR rfl (by intro _; rfl) rfl
            refine lOne (i := 11) krQ ?_
            refine dop rfl (BappendR (sz := 1) hS hR rfl rfl Try.underlying58 info3 rfl rfl (by rfl) pkQ (XC.all pkQ) (by intro _; rfl) (by show (_ + _) * 8 ≤ _; exact lenQ) lenQ (by first | rfl | (simp; done) | (simp; omega)) (by decide) ?_); clear hS hR hR0; intro aa ww r58 c58 hS hR
            refine lnext (hR.sub exQ) ?_; intro hR0
            refine lOne (i := 18) krQ ?_
            refine dop rfl (BappendR (sz := 1) hS hR rfl rfl Try.underlying58 info3 rfl rfl (by rfl) pkQ (XC.part (r := r2) (lo := plc K k) pkQ (by intro _; rfl) (by rfl) (by omega)) (by intro _; rfl) (by show (_ + _) * 8 ≤ _; exact lenQ) lenQ (by first | rfl | (simp; done) | (simp; omega)) (by decide) ?_); clear hS hR hR0; intro aa ww r65 c65 hS hR
            refine lnext (hR.sub exQ) ?_; intro hR0
            simp only [Int.toNat_natCast] at hS hR
            rw [put_vals hG hk hn vx] at hS hR
            refine lOne (i := 19) krQ ?_
            refine dop rfl (BA hS hR (Yld.nilCheck hS rfl) (by decide) ?_); clear hS; intro aa hS; refine ⟨fun _ => hR0, ?_⟩
            refine lA 20 rfl krQ krQ krQ krQ (fun _ _ _ h => h) hS hR0 (Yld.fieldAddr hS rfl 2 Try.underlying183 rfl rfl info58 (by decide)) (by decide) ?_; clear hS; intro aa hS
            refine lOne (i := 21) krQ ?_
            refine dop rfl (Bstore hS hR rfl rfl (by rfl) info58 (by rfl) pkQ (by rfl) (Nat.le_of_ble_eq_true rfl) ?_); clear hR hR0; intro ww hR
            refine lend ?_
            refine wpAnyL_done krQ ?_ _; try clear hR0
            try dsimp only [lay, List.set] at hR
            exact tail944 r65 c65 _ _ (hS.le (Le.nil _)) (hR.sub exQ)
          ·
            refine dop rfl (BbuildSlice hS hR rfl (bls58_1_0 _) (by decide) ?_); clear hS hR hR0; intro aa ww bb57 hS hR
            refine lnext (hR.sub exQ) ?_; intro hR0
            replace hR := hR.pk (r := blk bb57 _ _) pkQ
            replace hR := Sep.toRecs (m := 1) (sz := 1) (enc := e1) ([vx]) hR rfl (by intro _; rfl) rfl
            refine lOne (i := 8) krQ ?_
            refine dop rfl (BappendR (sz := 1) hS hR rfl rfl Try.underlying58 info3 rfl rfl (by rfl) pkQ (XC.upto pkQ (by intro _; rfl) (by omega)) (by intro _; rfl) (by show (_ + _) * 8 ≤ _; exact lenQ) lenQ (by first | rfl | (simp; done) | (simp; omega)) (by decide) ?_); clear hS hR hR0; intro aa ww r55 c55 hS hR
            refine lnext (hR.sub exQ) ?_; intro hR0
            refine lOne (i := 11) krQ ?_
            refine dop rfl (BappendR (sz := 1) hS hR rfl rfl Try.underlying58 info3 rfl rfl (by rfl) pkQ (XC.all pkQ) (by intro _; rfl) (by show (_ + _) * 8 ≤ _; exact lenQ) lenQ (by first | rfl | (simp; done) | (simp; omega)) (by decide) ?_); clear hS hR hR0; intro aa ww r58 c58 hS hR
            refine lnext (hR.sub exQ) ?_; intro hR0
            refine lOne (i := 18) krQ ?_
            refine dop rfl (BappendR (sz := 1) hS hR rfl rfl Try.underlying58 info3 rfl rfl (by rfl) pkQ (XC.part (r := r2) (lo := plc K k) pkQ (by intro _; rfl) (by rfl) (by omega)) (by intro _; rfl) (by show (_ + _) * 8 ≤ _; exact lenQ) lenQ (by first | rfl | (simp; done) | (simp; omega)) (by decide) ?_); clear hS hR hR0; intro aa ww r65 c65 hS hR
            refine lnext (hR.sub exQ) ?_; intro hR0
            simp only [Int.toNat_natCast] at hS hR
            rw [put_vals hG hk hn vx] at hS hR
            refine lOne (i := 19) krQ ?_
            refine dop rfl (BA hS hR (Yld.nilCheck hS rfl) (by decide) ?_); clear hS; intro aa hS; refine ⟨fun _ => hR0, ?_⟩
            refine lA 20 rfl krQ krQ krQ krQ (fun _ _ _ h => h) hS hR0 (Yld.fieldAddr hS rfl 2 Try.underlying183 rfl rfl info58 (by decide)) (by decide) ?_; clear hS; intro aa hS
            refine lOne (i := 21) krQ ?_
            refine dop rfl (Bstore hS hR rfl rfl (by rfl) info58 (by rfl) pkQ (by rfl) (Nat.le_of_ble_eq_true rfl) ?_); clear hR hR0; intro ww hR
            refine lend ?_
            refine wpAnyL_done krQ ?_ _; try clear hR0
            try dsimp only [lay, List.set] at hR
            exact tail944 r65 c65 _ _ (hS.le (Le.nil _)) (hR.sub exQ)
        ·
          refine dop rfl (BbuildSlice hS hR rfl (bls58_1_0 _) (by decide) ?_); clear hS hR hR0; intro aa ww bb57 hS hR
          refine lnext (hR.sub exQ) ?_; intro hR0
          replace hR := hR.pk (r := blk bb57 _ _) pkQ
          replace hR := Sep.toRecs (m := 1) (sz := 1) (enc := e1) ([vx]) hR rfl (by intro _; rfl) rfl
          refine lOne (i := 1) krQ ?_
          refine dop rfl (BbuildSlice hS hR rfl (bls58_0_) (by decide) ?_); clear hS hR hR0; intro aa ww bb48 hS hR
          refine lnext (hR.sub exQ) ?_; intro hR0
          replace hR := hR.pk (r := blk bb48 _ _) pkQ
          replace hR := Sep.toRecs (m := 0) (sz := 1) (enc := e1) (([] : List Int)) hR rfl (by intro _; rfl) rfl
          refine lOne (i := 8) krQ ?_
          refine dop rfl (BappendR (sz := 1) hS hR rfl rfl Try.underlying58 info3 rfl rfl (by rfl) pkQ (XC.upto pkQ (by intro _; rfl) (by omega)) (by intro _; rfl) (by show (_ + _) * 8 ≤ _; exact lenQ) lenQ (by first | rfl | (simp; done) | (simp; omega)) (by decide) ?_); clear hS hR hR0; intro aa ww r55 c55 hS hR
          refine lnext (hR.sub exQ) ?_; intro hR0
          refine lOne (i := 11) krQ ?_
          refine dop rfl (BappendR (sz := 1) hS hR rfl rfl Try.underlying58 info3 rfl rfl (by rfl) pkQ (XC.all pkQ) (by intro _; rfl) (by show (_ + _) * 8 ≤ _; exact lenQ) lenQ (by first | rfl | (simp; done) | (simp; omega)) (by decide) ?_); clear hS hR hR0; intro aa ww r58 c58 hS hR
          refine lnext (hR.sub exQ) ?_; intro hR0
          refine lOne (i := 18) krQ ?_
          refine dop rfl (BappendR (sz := 1) hS hR rfl rfl Try.underlying58 info3 rfl rfl (by rfl) pkQ (XC.part (r := r2) (lo := plc K k) pkQ (by intro _; rfl) (by rfl) (by omega)) (by intro _; rfl) (by show (_ + _) * 8 ≤ _; exact lenQ) lenQ (by first | rfl | (simp; done) | (simp; omega)) (by decide) ?_); clear hS hR hR0; intro aa ww r65 c65 hS hR
          refine lnext (hR.sub exQ) ?_; intro hR0
          simp only [Int.toNat_natCast] at hS hR
          rw [put_vals hG hk hn vx] at hS hR
          refine lOne (i := 19) krQ ?_
          refine dop rfl (BA hS hR (Yld.nilCheck hS rfl) (by decide) ?_); clear hS; intro aa hS; refine ⟨fun _ => hR0, ?_⟩
          refine lA 20 rfl krQ krQ krQ krQ (fun _ _ _ h => h) hS hR0 (Yld.fieldAddr hS rfl 2 Try.underlying183 rfl rfl info58 (by decide)) (by decide) ?_; clear hS; intro aa hS
          refine lOne (i := 21) krQ ?_
          refine dop rfl (Bstore hS hR rfl rfl (by rfl) info58 (by rfl) pkQ (by rfl) (Nat.le_of_ble_eq_true rfl) ?_); clear hR hR0; intro ww hR
          refine lend ?_
          refine wpAnyL_done krQ ?_ _; try clear hR0
          try dsimp only [lay, List.set] at hR
          exact tail944 r65 c65 _ _ (hS.le (Le.nil _)) (hR.sub exQ)
      refine drawnL 21 krQ hR ?_; clear hR; intro ww hR; have hR0 := hR
      refine lA 0 rfl krQ krQ krQ krQ (fun _ _ _ h => h) hS hR0 (Yld.move hS rfl) (by decide) ?_; clear hS; intro aa hS
      refine lA 2 rfl krQ krQ krQ krQ (fun _ _ _ h => h) hS hR0 (Yld.move hS rfl) (by decide) ?_; clear hS; intro aa hS
      refine lA 3 rfl krQ krQ krQ krQ (fun _ _ _ h => h) hS hR0 (Yld.nilCheck hS rfl) (by decide) ?_; clear hS; intro aa hS
      refine lA 4 rfl krQ krQ krQ krQ (fun _ _ _ h => h) hS hR0 (Yld.fieldAddr hS rfl 1 Try.underlying183 rfl rfl info24 (by decide)) (by decide) ?_; clear hS; intro aa hS
      refine lA 5 rfl krQ krQ krQ krQ (fun _ _ _ h => h) hS hR0 (Yld.load1 hS rfl Try.underlying24 rfl rdQ) (by decide) ?_; clear hS; intro aa hS
      refine lA 6 rfl krQ krQ krQ krQ (fun _ _ _ h => h) hS hR0 (Yld.move hS rfl) (by decide) ?_; clear hS; intro aa hS
      refine lA 7 rfl krQ krQ krQ krQ (fun _ _ _ h => h) hS hR0 (Yld.sliceHi hS rfl rfl Try.underlying24 info35 (by omega) (by omega)) (by decide) ?_; clear hS; intro aa hS
      refine lA 9 rfl krQ krQ krQ krQ (fun _ _ _ h => h) hS hR0 (Yld.loadAgg hS rfl Try.underlying35 rfl info35 rdsQ5 (by rfl)) (by decide) ?_; clear hS; intro aa hS
      refine lA 12 rfl krQ krQ krQ krQ (fun _ _ _ h => h) hS hR0 (Yld.move hS rfl) (by decide) ?_; clear hS; intro aa hS
      refine lA 13 rfl krQ krQ krQ krQ (fun _ _ _ h => h) hS hR0 (Yld.nilCheck hS rfl) (by decide) ?_; clear hS; intro aa hS
      refine lA 14 rfl krQ krQ krQ krQ (fun _ _ _ h => h) hS hR0 (Yld.fieldAddr hS rfl 1 Try.underlying183 rfl rfl info24 (by decide)) (by decide) ?_; clear hS; intro aa hS
      refine lA 15 rfl krQ krQ krQ krQ (fun _ _ _ h => h) hS hR0 (Yld.load1 hS rfl Try.underlying24 rfl rdQ) (by decide) ?_; clear hS; intro aa hS
      refine lA 16 rfl krQ krQ krQ krQ (fun _ _ _ h => h) hS hR0 (Yld.move hS rfl) (by decide) ?_; clear hS; intro aa hS
      refine lA 17 rfl krQ krQ krQ krQ (fun _ _ _ h => h) hS hR0 (Yld.sliceLo hS rfl rfl Try.underlying24 info35 (by omega) (by omega)) (by decide) ?_; clear hS; intro aa hS
      refine lTwo (i := 1) (j := 10) krQ ?_ ?_
      ·
        refine dop rfl (BbuildSlice hS hR rfl (bls24_0_) (by decide) ?_); clear hS hR hR0; intro aa ww bb27 hS hR
        refine lnext (hR.sub exQ) ?_; intro hR0
        replace hR := hR.pk (r := blk bb27 _ _) pkQ
        replace hR := Sep.toRecs (m := 0) (sz := 5) (enc := eK) (([] : List Ky)) hR rfl (by intro _; rfl) rfl
        refine lTwo (i := 8) (j := 10) krQ ?_ ?_
        ·
          refine dop rfl (BappendR (sz := 5) hS hR rfl rfl Try.underlying24 info35 rfl rfl (by rfl) pkQ (XC.upto pkQ (by intro _; rfl) (by omega)) (by intro _; rfl) (by show (_ + _) * 16 ≤ _; exact lenQ) lenQ (by first | rfl | (simp; done) | (simp; omega)) (by decide) ?_); clear hS hR hR0; intro aa ww r34 c34 hS hR
          refine lnext (hR.sub exQ) ?_; intro hR0
          refine lOne (i := 10) krQ ?_
          refine dop rfl (BbuildSlice hS hR rfl (bls24_1_0 _ _ _ _ _) (by decide) ?_); clear hS hR hR0; intro aa ww bb36 hS hR
          refine lnext (hR.sub exQ) ?_; intro hR0
          replace hR := hR.pk (r := blk bb36 _ _) pkQ
          replace hR := Sep.toRecs (m := 1) (sz := 5) (enc := eK) ([k]) hR rfl (by intro _; rfl) rfl
          refine lOne (i := 11) krQ ?_
          refine dop rfl (BappendR (sz := 5) hS hR rfl rfl Try.underlying24 info35 rfl rfl (by rfl) pkQ (XC.all pkQ) (by intro _; rfl) (by show (_ + _) * 16 ≤ _; exact lenQ) lenQ (by first | rfl | (simp; done) | (simp; omega)) (by decide) ?_); clear hS hR hR0; intro aa ww r37 c37 hS hR
          refine lnext (hR.sub exQ) ?_; intro hR0
          refine lOne (i := 18) krQ ?_
          refine dop rfl (BappendR (sz := 5) hS hR rfl rfl Try.underlying24 info35 rfl rfl (by rfl) pkQ (XC.part (r := r1) (lo := plc K k) pkQ (by intro _; rfl) (by rfl) (by omega)) (by intro _; rfl) (by show (_ + _) * 16 ≤ _; exact lenQ) lenQ (by first | rfl | (simp; done) | (simp; omega)) (by decide) ?_); clear hS hR hR0; intro aa ww r44 c44 hS hR
          refine lnext (hR.sub exQ) ?_; intro hR0
          simp only [Int.toNat_natCast] at hS hR
          rw [put_keys hG hk hn vx] at hS hR
          refine lOne (i := 19) krQ ?_
          refine dop rfl (BA hS hR (Yld.nilCheck hS rfl) (by decide) ?_); clear hS; intro aa hS; refine ⟨fun _ => hR0, ?_⟩
          refine lA 20 rfl krQ krQ krQ krQ (fun _ _ _ h => h) hS hR0 (Yld.fieldAddr hS rfl 1 Try.underlying183 rfl rfl info24 (by decide)) (by decide) ?_; clear hS; intro aa hS
          refine lOne (i := 21) krQ ?_
          refine dop rfl (Bstore hS hR rfl rfl (by rfl) info24 (by rfl) pkQ (by rfl) (Nat.le_of_ble_eq_true rfl) ?_); clear hR hR0; intro ww hR
          refine lend ?_
          refine wpAnyL_done krQ ?_ _; try clear hR0
          try dsimp only [lay, List.set] at hR
          exact tail943 r44 c44 _ _ (hS.le (Le.cons rfl (Le.cons rfl (Le.cons rfl (Le.nil _))))) (hR.sub exQ)
        ·
          refine dop rfl (BbuildSlice hS hR rfl (bls24_1_0 _ _ _ _ _) (by decide) ?_); clear hS hR hR0; intro aa ww bb36 hS hR
          refine lnext (hR.sub exQ) ?_; intro hR0
          replace hR := hR.pk (r := blk bb36 _ _) pkQ
          replace hR := Sep.toRecs (m := 1) (sz := 5) (enc := eK) ([k]) hR rfl (by intro _; rfl) rfl
          refine lOne (i := 8) krQ ?_
          refine dop rfl (BappendR (sz := 5) hS hR rfl rfl Try.underlying24 info35 rfl rfl (by rfl) pkQ (XC.upto pkQ (by intro _; rfl) (by omega)) (by intro _; rfl) (by show (_ + _) * 16 ≤ _; exact lenQ) lenQ (by first | rfl | (simp; done) | (simp; omega)) (by decide) ?_); clear hS hR hR0; intro aa ww r34 c34 hS hR
          refine lnext (hR.sub exQ) ?_; intro hR0
          refine lOne (i := 11) krQ ?_
          refine dop rfl (BappendR (sz := 5) hS hR rfl rfl Try.underlying24 info35 rfl rfl (by rfl) pkQ (XC.all pkQ) (by intro _; rfl) (by show (_ + _) * 16 ≤ _; exact lenQ) lenQ (by first | rfl | (simp; done) | (simp; omega)) (by decide) ?_); clear hS hR hR0; intro aa ww r37 c37 hS hR
          refine lnext (hR.sub exQ) ?_; intro hR0
          refine lOne (i := 18) krQ ?_
          refine dop rfl (BappendR (sz := 5) hS hR rfl rfl Try.underlying24 info35 rfl rfl (by rfl) pkQ (XC.part (r := r1) (lo := plc K k) pkQ (by intro _; rfl) (by rfl) (by omega)) (by intro _; rfl) (by show (_ + _) * 16 ≤ _; exact lenQ) lenQ (by first | rfl | (simp; done) | (simp; omega)) (by decide) ?_); clear hS hR hR0; intro aa ww r44 c44 hS hR
          refine lnext (hR.sub exQ) ?_; intro hR0
          simp only [Int.toNat_natCast] at hS hR
          rw [put_keys hG hk hn vx] at hS hR
          refine lOne (i := 19) krQ ?_
          refine dop rfl (BA hS hR (Yld.nilCheck hS rfl) (by decide) ?_); clear hS; intro aa hS; refine ⟨fun _ => hR0, ?_⟩
          refine lA 20 rfl krQ krQ krQ krQ (fun _ _ _ h => h) hS hR0 (Yld.fieldAddr hS rfl 1 Try.underlying183 rfl rfl info24 (by decide)) (by decide) ?_; clear hS; intro aa hS
          refine lOne (i := 21) krQ ?_
          refine dop rfl (Bstore hS hR rfl rfl (by rfl) info24 (by rfl) pkQ (by rfl) (Nat.le_of_ble_eq_true rfl) ?_); clear hR hR0; intro ww hR
          refine lend ?_
          refine wpAnyL_done krQ ?_ _; try clear hR0
          try dsimp only [lay, List.set] at hR
          exact tail943 r44 c44 _ _ (hS.le (Le.cons rfl (Le.cons rfl (Le.cons rfl (Le.nil _))))) (hR.sub exQ)
      ·
        refine dop rfl (BbuildSlice hS hR rfl (bls24_1_0 _ _ _ _ _) (by decide) ?_); clear hS hR hR0; intro aa ww bb36 hS hR
        refine lnext (hR.sub exQ) ?_; intro hR0
        replace hR := hR.pk (r := blk bb36 _ _) pkQ
        replace hR := Sep.toRecs (m := 1) (sz := 5) (enc := eK) ([k]) hR rfl (by intro _; rfl) rfl
        refine lOne (i := 1) krQ ?_
        refine dop rfl (BbuildSlice hS hR rfl (bls24_0_) (by decide) ?_); clear hS hR hR0; intro aa ww bb27 hS hR
        refine lnext (hR.sub exQ) ?_; intro hR0
        replace hR := hR.pk (r := blk bb27 _ _) pkQ
        replace hR := Sep.toRecs (m := 0) (sz := 5) (enc := eK) (([] : List Ky)) hR rfl (by intro _; rfl) rfl
        refine lOne (i := 8) krQ ?_
        refine dop rfl (BappendR (sz := 5) hS hR rfl rfl Try.underlying24 info35 rfl rfl (by rfl) pkQ (XC.upto pkQ (by intro _; rfl) (by omega)) (by intro _; rfl) (by show (_ + _) * 16 ≤ _; exact lenQ) lenQ (by first | rfl | (simp; done) | (simp; omega)) (by decide) ?_); clear hS hR hR0; intro aa ww r34 c34 hS hR
        refine lnext (hR.sub exQ) ?_; intro hR0
        refine lOne (i := 11) krQ ?_
        refine dop rfl (BappendR (sz := 5) hS hR rfl rfl Try.underlying24 info35 rfl rfl (by rfl) pkQ (XC.all pkQ) (by intro _; rfl) (by show (_ + _) * 16 ≤ _; exact lenQ) lenQ (by first | rfl | (simp; done) | (simp; omega)) (by decide) ?_); clear hS hR hR0; intro aa ww r37 c37 hS hR
        refine lnext (hR.sub exQ) ?_; intro hR0
        refine lOne (i := 18) krQ ?_
        refine dop rfl (BappendR (sz := 5) hS hR rfl rfl Try.underlying24 info35 rfl rfl (by rfl) pkQ (XC.part (r := r1) (lo := plc K k) pkQ (by intro _; rfl) (by rfl) (by omega)) (by intro _; rfl) (by show (_ + _) * 16 ≤ _; exact lenQ) lenQ (by first | rfl | (simp; done) | (simp; omega)) (by decide) ?_); clear hS hR hR0; intro aa ww r44 c44 hS hR
        refine lnext (hR.sub exQ) ?_; intro hR0
        simp only [Int.toNat_natCast] at hS hR
        rw [put_keys hG hk hn vx] at hS hR
        refine lOne (i := 19) krQ ?_
        refine dop rfl (BA hS hR (Yld.nilCheck hS rfl) (by decide) ?_); clear hS; intro aa hS; refine ⟨fun _ => hR0, ?_⟩
        refine lA 20 rfl krQ krQ krQ krQ (fun _ _ _ h => h) hS hR0 (Yld.fieldAddr hS rfl 1 Try.underlying183 rfl rfl info24 (by decide)) (by decide) ?_; clear hS; intro aa hS
        refine lOne (i := 21) krQ ?_
        refine dop rfl (Bstore hS hR rfl rfl (by rfl) info24 (by rfl) pkQ (by rfl) (Nat.le_of_ble_eq_true rfl) ?_); clear hR hR0; intro ww hR
        refine lend ?_
        refine wpAnyL_done krQ ?_ _; try clear hR0
        try dsimp only [lay, List.set] at hR
        exact tail943 r44 c44 _ _ (hS.le (Le.cons rfl (Le.cons rfl (Le.cons rfl (Le.nil _))))) (hR.sub exQ)
end Go.Proofs.Ythhndmlfgjcgpaa.Sx
