/-
  
-/
import Derived.Test.YtojeibjlkbffcaaLrC
import Derived.Test.YtojeibjlkbffcaaLru2
import Derived.Test.YtojeibjlkbffcaaInts
namespace Go.Proofs.Ytojeibjlkbffcaa.Sx
open Go
set_option linter.unusedVariables false
set_option linter.unusedSimpArgs false

theorem bls27_2_0_1 (x0 : Int) (x1 : Int) (w : World) : (Instr.buildSlice 27 2 [(0, .int .i64 x0), (1, .int .i64 x1)].toArray).run Try.prog w = .ok (.slice (some ⟨w.heap.size, 0, none⟩) 2 2) (w.alloc (.cells ([.int .i64 x0, .int .i64 x1] : List Value).toArray 3)) := by kernel_rfl
theorem bls27_3_0_1_2 (x0 : Int) (x1 : Int) (x2 : Int) (w : World) : (Instr.buildSlice 27 3 [(0, .int .i64 x0), (1, .int .i64 x1), (2, .int .i64 x2)].toArray).run Try.prog w = .ok (.slice (some ⟨w.heap.size, 0, none⟩) 3 3) (w.alloc (.cells ([.int .i64 x0, .int .i64 x1, .int .i64 x2] : List Value).toArray 3)) := by kernel_rfl

set_option maxRecDepth 20000 in
theorem SameInts_ok {q1 q2 : Option Addr} {c1 c2 : Nat} {xs ys : List Int} {l : List HP} {w : World} (hR : Sep l w) (s1 : IntsAt l q1 xs) (s2 : IntsAt l q2 ys) (hx : xs.length ≤ 9000) (hy : ys.length ≤ 9000) : CallR Try.prog 14 [.slice q1 xs.length c1, .slice q2 ys.length c2] w (fun v w' => v = .bool (decide (xs = ys)) ∧ Sep l w') := by
  refine enter Try.func14 rfl Try.ntmps14 (Nat.le_of_ble_eq_true rfl) ?_; intro aa hS
  refine wp_seq_k ?_; intro K217 hK217
  refine wp_region_lit ?_
  refine sA hS hR (Yld.assign hS rfl) (by decide) ?_; clear hS; intro aa hS
  refine wpList_nil ?_
  refine hK217 _ _ ?_
  refine wp_seq_k ?_; intro K218 hK218
  refine wp_seq_k ?_; intro K219 hK219
  refine wp_region_lit ?_
  refine sA hS hR (Yld.move hS rfl) (by decide) ?_; clear hS; intro aa hS
  refine sA hS hR (Yld.len hS rfl Try.underlying27) (by decide) ?_; clear hS; intro aa hS
  refine sA hS hR (Yld.move hS rfl) (by decide) ?_; clear hS; intro aa hS
  refine sA hS hR (Yld.len hS rfl Try.underlying27) (by decide) ?_; clear hS; intro aa hS
  refine sA hS hR (Yld.neq hS rfl rfl) (by decide) ?_; clear hS; intro aa hS
  refine wpList_nil ?_
  refine hK219 _ _ ?_
  refine hS.splitB (t := 10) rfl ?_ ?_ <;> clear hS
  · intro hg hS
    refine condT hS rfl ?_
    refine wp_seq_k ?_; intro K220 hK220
    refine wp_region_lit ?_
    refine sA hS hR (Yld.assign hS rfl) (by decide) ?_; clear hS; intro aa hS
    refine wpList_nil ?_
    refine hK220 _ _ ?_
    refine wp_ret ?_
    repeat (first | with_reducible refine thenR ?_ | with_reducible refine blockR ?_ | with_reducible refine scopeR ?_)
    refine ret1 (fn := Try.f14) (e := .ret) (.inl rfl) Try.results14 hS hR ⟨_, (.tmp rfl), ?_⟩
    refine ⟨?_, (hR.sub (by repeat (first | with_reducible exact Ex.refl | with_reducible apply Ex.drop)))⟩
    first
      | exact dec_no (fun e => by subst e; omega)
      | exact dec_no (fun e => by subst e; exact hg rfl)
      | exact dec_yes (by have h := hI.2; rw [List.take_of_length_le (by omega), List.take_of_length_le (by omega)] at h; exact h)
  · intro hg hS
    have hlen : xs.length = ys.length := by omega
    refine condF hS rfl ?_
    refine wp_skip ?_
    refine hK218 _ _ ?_
    refine wp_seq_k ?_; intro K221 hK221
    refine wp_seq_k ?_; intro K222 hK222
    refine wp_region_lit ?_
    refine sA hS hR (Yld.assign hS rfl) (by decide) ?_; clear hS; intro aa hS
    refine wpList_nil ?_
    refine hK222 _ _ ?_
    refine wp_block ?_
    refine loopI (X := Nat) [(0, _), (1, _)] (fun x => [(5, .int .i64 (x : Int))]) (fun x => []) _ (fun x => x ≤ xs.length ∧ xs.take x = ys.take x) (fun x => xs.length - x) 0 ⟨by omega, rfl⟩ (hS.le (Le.cons rfl (Le.nilapp (Le.cons rfl (Le.cons rfl (Le.nil _)))))) hR ?_
    clear hS hR; rintro k aa ww hI hS hR; dsimp only [List.cons_append, List.nil_append] at hI hS hR
    refine wp_seq_k ?_; intro K224 hK224
    refine wp_seq_k ?_; intro K225 hK225
    refine wp_region_lit ?_
    refine sA hS hR (Yld.move hS rfl) (by decide) ?_; clear hS; intro aa hS
    refine sA hS hR (Yld.move hS rfl) (by decide) ?_; clear hS; intro aa hS
    refine sA hS hR (Yld.len hS rfl Try.underlying27) (by decide) ?_; clear hS; intro aa hS
    refine sA hS hR (Yld.lss hS rfl rfl) (by decide) ?_; clear hS; intro aa hS
    refine wpList_nil ?_
    refine hK225 _ _ ?_
    refine hS.splitB (t := 14) rfl ?_ ?_ <;> clear hS
    · intro hg hS
      obtain ⟨b1, i1, hq1, hr1⟩ := s1 (by omega)
      obtain ⟨b2, i2, hq2, hr2⟩ := s2 (by omega)
      subst hq1 hq2
      have hk1 : k < xs.length := by omega
      have hk2 : k < ys.length := by omega
      refine condT hS rfl ?_
      refine wp_skip ?_
      refine hK224 _ _ ?_
      refine wp_seq_k ?_; intro K226 hK226
      refine wp_block ?_
      refine wp_seq_k ?_; intro K227 hK227
      refine drawn (by kernel_rfl) hR Ex.refl ?_; clear hR; intro ww hR hR0
      refine dA 0 rfl (by kernel_rfl) (by kernel_rfl) (by kernel_rfl) (fun _ _ _ h => h) hS hR0 (Yld.move hS rfl) (by decide) ?_; clear hS; intro aa hS
      refine dA 1 rfl (by kernel_rfl) (by kernel_rfl) (by kernel_rfl) (fun _ _ _ h => h) hS hR0 (Yld.move hS rfl) (by decide) ?_; clear hS; intro aa hS
      refine dA 2 rfl (by kernel_rfl) (by kernel_rfl) (by kernel_rfl) (fun _ _ _ h => h) hS hR0 ((by first | exact Yld.indexH (sz := 1) (_) hS rfl rfl Try.underlying27 info3 (by assumption) rfl (by first | rfl | omega) (by omega) | exact Yld.indexL (sz := 1) (_) hS rfl rfl Try.underlying27 info3 (by repeat (first | with_reducible exact Pk.here | with_reducible apply Pk.there)) rfl (by first | rfl | omega) (by omega) | exact Yld.indexB (sz := 1) (_) hS rfl rfl Try.underlying27 info3 rfl (by first | rfl | omega) (by omega) | exact Yld.indexSlice hS rfl rfl Try.underlying27 info3 (by omega) (by omega))) (by decide) ?_; clear hS; intro aa hS
      refine dA 3 rfl (by kernel_rfl) (by kernel_rfl) (by kernel_rfl) (fun _ _ _ h => h) hS hR0 (Yld.load1 hS rfl Try.underlying3 rfl ((hr1 k hk1).at (by show i1 + k * 1 = _; omega))) (by decide) ?_; clear hS; intro aa hS
      refine dA 4 rfl (by kernel_rfl) (by kernel_rfl) (by kernel_rfl) (fun _ _ _ h => h) hS hR0 (Yld.move hS rfl) (by decide) ?_; clear hS; intro aa hS
      refine dA 5 rfl (by kernel_rfl) (by kernel_rfl) (by kernel_rfl) (fun _ _ _ h => h) hS hR0 (Yld.move hS rfl) (by decide) ?_; clear hS; intro aa hS
      refine dA 6 rfl (by kernel_rfl) (by kernel_rfl) (by kernel_rfl) (fun _ _ _ h => h) hS hR0 ((by first | exact Yld.indexH (sz := 1) (_) hS rfl rfl Try.underlying27 info3 (by assumption) rfl (by first | rfl | omega) (by omega) | exact Yld.indexL (sz := 1) (_) hS rfl rfl Try.underlying27 info3 (by repeat (first | with_reducible exact Pk.here | with_reducible apply Pk.there)) rfl (by first | rfl | omega) (by omega) | exact Yld.indexB (sz := 1) (_) hS rfl rfl Try.underlying27 info3 rfl (by first | rfl | omega) (by omega) | exact Yld.indexSlice hS rfl rfl Try.underlying27 info3 (by omega) (by omega))) (by decide) ?_; clear hS; intro aa hS
      refine dA 7 rfl (by kernel_rfl) (by kernel_rfl) (by kernel_rfl) (fun _ _ _ h => h) hS hR0 (Yld.load1 hS rfl Try.underlying3 rfl ((hr2 k hk2).at (by show i2 + k * 1 = _; omega))) (by decide) ?_; clear hS; intro aa hS
      refine dA 8 rfl (by kernel_rfl) (by kernel_rfl) (by kernel_rfl) (fun _ _ _ h => h) hS hR0 (Yld.neq hS rfl rfl) (by decide) ?_; clear hS; intro aa hS
      refine wpAnyH_done (by kernel_rfl) ?_ _; clear hR0
      refine hK227 _ _ ?_
      refine hS.splitB (t := 25) rfl ?_ ?_ <;> clear hS
      · intro hg hS
        refine condT hS rfl ?_
        refine wp_seq_k ?_; intro K228 hK228
        refine wp_region_lit ?_
        refine sA hS hR (Yld.assign hS rfl) (by decide) ?_; clear hS; intro aa hS
        refine wpList_nil ?_
        refine hK228 _ _ ?_
        refine wp_ret ?_
        repeat (first | with_reducible refine thenR ?_ | with_reducible refine blockR ?_ | with_reducible refine scopeR ?_)
        refine ret1 (fn := Try.f14) (e := .ret) (.inl rfl) Try.results14 hS hR ⟨_, (.tmp rfl), ?_⟩
        refine ⟨?_, (hR.sub (by repeat (first | with_reducible exact Ex.refl | with_reducible apply Ex.drop)))⟩
        first
          | exact dec_no (fun e => by subst e; omega)
          | exact dec_no (fun e => by subst e; exact hg rfl)
          | exact dec_yes (by have h := hI.2; rw [List.take_of_length_le (by omega), List.take_of_length_le (by omega)] at h; exact h)
      · intro hg hS
        refine condF hS rfl ?_
        refine wp_skip ?_
        refine hK226 _ _ ?_
        refine wp_region_lit ?_
        refine sA hS hR (Yld.move hS rfl) (by decide) ?_; clear hS; intro aa hS
        refine sA hS hR ((by first | exact Yld.add64 hS rfl rfl (by omega) | exact Yld.add hS rfl rfl)) (by decide) ?_; clear hS; intro aa hS
        refine sA hS hR (Yld.assign hS rfl) (by decide) ?_; clear hS; intro aa hS
        refine wpList_nil ?_
        
        refine ⟨k + 1, ?_, ?_, hS.le (Le.cons rfl (Le.nilapp (Le.cons rfl (Le.cons rfl (Le.nil _))))), hR.sub (Ex.nilapp (by repeat (first | with_reducible exact Ex.refl | (with_reducible apply Ex.take; · repeat (first | with_reducible exact Pk.here | with_reducible apply Pk.there)) | with_reducible apply Ex.drop)))⟩
        · exact ⟨by omega, take_next hI.2 hk1 hk2 hg⟩
        · omega
    · intro hg hS
      refine condF hS rfl ?_
      refine wp_exit ?_
      refine hK221 _ _ ?_
      refine wp_seq_k ?_; intro K229 hK229
      refine wp_region_lit ?_
      refine sA hS hR (Yld.assign hS rfl) (by decide) ?_; clear hS; intro aa hS
      refine wpList_nil ?_
      refine hK229 _ _ ?_
      refine wp_ret ?_
      repeat (first | with_reducible refine thenR ?_ | with_reducible refine blockR ?_ | with_reducible refine scopeR ?_)
      refine ret1 (fn := Try.f14) (e := .ret) (.inl rfl) Try.results14 hS hR ⟨_, (.tmp rfl), ?_⟩
      refine ⟨?_, (hR.sub (by repeat (first | with_reducible exact Ex.refl | with_reducible apply Ex.drop)))⟩
      first
        | exact dec_no (fun e => by subst e; omega)
        | exact dec_no (fun e => by subst e; exact hg rfl)
        | exact dec_yes (by have h := hI.2; rw [List.take_of_length_le (by omega), List.take_of_length_le (by omega)] at h; exact h)
theorem getD_at {xs : List Int} {i : Nat} (h : i < xs.length) : xs[i] = xs.getD i 0 := by rw [List.getD_eq_getElem?_getD, List.getElem?_eq_getElem h]; rfl
def aw4O : List Nat := seeO 4 (awS 3).1 2
def aw4T : Nat → Int := seeT 4 (awS 3).2.1 (awS 3).2.2 2
def aw4N : Int := seeN 4 (awS 3).2.2 2
def aw5O : List Nat := loutO 4 aw4O 3
theorem a3_all : cst (awS 3).1 = [2, 0, 3] := by decide +kernel
theorem a4_all : cst aw4O = [0, 3, 2] := by decide +kernel
theorem a4_since : cst (aw4O.filter fun j => decide (aw4T j > 2)) = [3, 2] := by decide +kernel
theorem a5_all : cst aw5O = [0, 2] := by decide +kernel
set_option maxHeartbeats 4000000 in
set_option maxRecDepth 20000 in
theorem awake_ok {l : List HP} {w : World} (hR : Sep l w) : CallR Try.prog 16 ([] : List Value) w (fun v w' => v = .bool true ∧ Sep l w') := by
  refine enter Try.func16 rfl Try.ntmps16 (Nat.le_of_ble_eq_true rfl) ?_; intro aa hS
  refine wp_seq_k ?_; intro K230 hK230
  refine wp_region_lit ?_
  refine sA hS hR (Yld.assign hS rfl) (by decide) ?_; clear hS; intro aa hS
  refine wpList_nil ?_
  refine hK230 _ _ ?_
  refine wp_seq_k ?_; intro K231 hK231
  refine wp_region_lit ?_
  refine sB (Bcall hS rfl Try.call21 (lrNew_ok (S := 4) hR (by decide) (by decide)) (by decide) ?_); clear hS; intro aa ww vv hS hp
  clear hR
  obtain ⟨b, rfl, hR⟩ := hp
  refine sA hS hR (Yld.move hS rfl) (by decide) ?_; clear hS; intro aa hS
  refine sA hS hR (Yld.extract hS rfl rfl) (by decide) ?_; clear hS; intro aa hS
  refine sA hS hR (Yld.extract hS rfl rfl) (by decide) ?_; clear hS; intro aa hS
  refine sA hS hR (Yld.assign hS rfl) (by decide) ?_; clear hS; intro aa hS
  refine sA hS hR (Yld.assign hS rfl) (by decide) ?_; clear hS; intro aa hS
  refine wpList_nil ?_
  refine hK231 _ _ ?_
  refine wp_seq_k ?_; intro K232 hK232
  refine wp_seq_k ?_; intro K233 hK233
  refine wp_region_lit ?_
  refine sA hS hR (Yld.move hS rfl) (by decide) ?_; clear hS; intro aa hS
  refine sA hS hR (Yld.neq hS rfl rfl) (by decide) ?_; clear hS; intro aa hS
  replace hS := hS.sayB (t := 24) false rfl (by decide)
  refine sA hS hR (Yld.move hS rfl) (by decide) ?_; clear hS; intro aa hS
  refine sAg hS hR rfl rfl (Yld.move hS rfl) (by decide) ?_; clear hS; intro aa hS
  refine sAg hS hR rfl rfl (Yld.eqlNil hS rfl rfl Try.underlying23) (by decide) ?_; clear hS; intro aa hS
  replace hS := hS.sayB (t := 27) false rfl (by rfl)
  refine sA hS hR (Yld.pickF hS rfl rfl) (by decide) ?_; clear hS; intro aa hS
  refine wpList_nil ?_
  refine hK233 _ _ ?_
  refine condF hS rfl ?_
  refine wp_skip ?_
  refine hK232 _ _ ?_
  refine wp_seq_k ?_; intro K234 hK234
  refine wp_seq_k ?_; intro K235 hK235
  refine wp_region_lit ?_
  refine sB (BbuildSlice hS hR rfl (bls27_3_0_1_2 _ _ _) (by decide) ?_); clear hS hR; intro aa ww bb29 hS hR
  replace hR := hR.pk (r := blk bb29 _ _) (by repeat (first | with_reducible exact Pk.here | with_reducible apply Pk.there))
  replace hR := Sep.toRecs (m := 3) (sz := 1) (enc := e1) exS hR rfl (by intro _; rfl) rfl
  refine sA hS hR (Yld.len hS rfl Try.underlying27) (by decide) ?_; clear hS; intro aa hS
  refine sA hS hR (Yld.move hS rfl) (by decide) ?_; clear hS; intro aa hS
  refine wpList_nil ?_
  refine hK235 _ _ ?_
  refine wp_block ?_
  replace hR := hR.pk (r := lruA 56 80 77 3 b 4 [] (fun _ => 0) 0) (by repeat (first | with_reducible exact Pk.here | with_reducible apply Pk.there))
  refine loopI (X := Nat) [(1, _), (29, _), (30, _)] (fun x => [(31, .int .i64 (x : Int))]) (fun x => [lruA 56 80 77 3 b 4 (awS x).1 (awS x).2.1 (awS x).2.2]) _ (fun x => x ≤ 3) (fun x => 3 - x) 0 (Nat.zero_le _) (hS.le (Le.cons rfl (Le.nilapp (Le.cons rfl (Le.cons rfl (Le.cons rfl (Le.nil _))))))) hR ?_
  clear hS hR; rintro i aa ww hI hS hR; dsimp only [List.cons_append, List.nil_append] at hI hS hR
  refine wp_seq_k ?_; intro K237 hK237
  refine wp_region_lit ?_
  refine sA hS hR (Yld.lss hS rfl rfl) (by decide) ?_; clear hS; intro aa hS
  refine wpList_nil ?_
  refine hK237 _ _ ?_
  refine wp_seq_k ?_; intro K238 hK238
  refine hS.splitB (t := 32) rfl ?_ ?_ <;> clear hS
  · intro hg hS
    have hi3 : i < 3 := by omega
    refine condT hS rfl ?_
    refine wp_skip ?_
    refine hK238 _ _ ?_
    refine wp_seq_k ?_; intro K239 hK239
    refine wp_block ?_
    refine wp_seq_k ?_; intro K240 hK240
    refine wp_region_lit ?_
    refine sA hS hR (Yld.move hS rfl) (by decide) ?_; clear hS; intro aa hS
    refine sA hS hR ((by first | exact Yld.indexH (sz := 1) (i) hS rfl rfl Try.underlying27 info3 (by assumption) rfl (by first | rfl | omega) (by omega) | exact Yld.indexL (sz := 1) (i) hS rfl rfl Try.underlying27 info3 (by repeat (first | with_reducible exact Pk.here | with_reducible apply Pk.there)) rfl (by first | rfl | omega) (by omega) | exact Yld.indexB (sz := 1) (i) hS rfl rfl Try.underlying27 info3 rfl (by first | rfl | omega) (by omega))) (by decide) ?_; clear hS; intro aa hS
    refine sA hS hR (Yld.load1 hS rfl Try.underlying3 rfl (Rd.rec0 (k := i) (xs := exS) (v := .int .i64 (exS.getD i 0)) (by repeat (first | with_reducible exact Pk.here | with_reducible apply Pk.there)) (by intro _; rfl) (by show i < 3; omega) (by simp only [getD_at (show i < exS.length by show i < 3; omega)]; rfl))) (by decide) ?_; clear hS; intro aa hS
    refine sA hS hR (Yld.assign hS rfl) (by decide) ?_; clear hS; intro aa hS
    refine sA hS hR (Yld.assign hS rfl) (by decide) ?_; clear hS; intro aa hS
    refine wpList_nil ?_
    refine hK240 _ _ ?_
    refine wp_seq_k ?_; intro K241 hK241
    refine wp_region_lit ?_
    refine sA hS hR (Yld.move hS rfl) (by decide) ?_; clear hS; intro aa hS
    refine sA hS hR (Yld.move hS rfl) (by decide) ?_; clear hS; intro aa hS
    refine sB (Bcall hS rfl Try.call19 (lrSee_ok (i := exS.getD i 0) (hR.pk (r := lruA _ _ _ _ _ _ _ _ _) (by repeat (first | with_reducible exact Pk.here | with_reducible apply Pk.there))) (by rw [awS_now (by omega)]; omega)) (by decide) ?_); clear hS; intro aa ww vv hS hp
    clear hR
    obtain ⟨rfl, hR⟩ := hp
    rw [seeV, if_pos (awS_in hi3), awS_now (show i ≤ 3 by omega)] at hS
    change Sep (lruA 56 80 77 3 b 4 (awS (i + 1)).1 (awS (i + 1)).2.1 (awS (i + 1)).2.2 :: _) _ at hR
    refine sA hS hR (Yld.move hS rfl) (by decide) ?_; clear hS; intro aa hS
    refine sA hS hR (Yld.extract hS rfl rfl) (by decide) ?_; clear hS; intro aa hS
    refine sA hS hR (Yld.extract hS rfl rfl) (by decide) ?_; clear hS; intro aa hS
    refine sA hS hR (Yld.assign hS rfl) (by decide) ?_; clear hS; intro aa hS
    refine sA hS hR (Yld.assign hS rfl) (by decide) ?_; clear hS; intro aa hS
    refine wpList_nil ?_
    refine hK241 _ _ ?_
    refine wp_seq_k ?_; intro K242 hK242
    refine wp_region_lit ?_
    refine sA hS hR (Yld.move hS rfl) (by decide) ?_; clear hS; intro aa hS
    refine sA hS hR (Yld.move hS rfl) (by decide) ?_; clear hS; intro aa hS
    refine sA hS hR ((by first | exact Yld.add64 hS rfl rfl (by omega) | exact Yld.add hS rfl rfl)) (by decide) ?_; clear hS; intro aa hS
    refine sA hS hR (Yld.neq hS rfl rfl) (by decide) ?_; clear hS; intro aa hS
    replace hS := hS.sayB (t := 45) false rfl (by simp)
    refine sA hS hR (Yld.move hS rfl) (by decide) ?_; clear hS; intro aa hS
    refine sAg hS hR rfl rfl (Yld.move hS rfl) (by decide) ?_; clear hS; intro aa hS
    refine sAg hS hR rfl rfl (Yld.neq hS rfl rfl) (by decide) ?_; clear hS; intro aa hS
    replace hS := hS.sayB (t := 48) false rfl (by decide)
    refine sA hS hR (Yld.pickF hS rfl rfl) (by decide) ?_; clear hS; intro aa hS
    refine wpList_nil ?_
    refine hK242 _ _ ?_
    refine condF hS rfl ?_
    refine wp_skip ?_
    refine hK239 _ _ ?_
    refine wp_region_lit ?_
    refine sA hS hR ((by first | exact Yld.add64 hS rfl rfl (by omega) | exact Yld.add hS rfl rfl)) (by decide) ?_; clear hS; intro aa hS
    refine sA hS hR (Yld.move hS rfl) (by decide) ?_; clear hS; intro aa hS
    refine wpList_nil ?_
    
    refine ⟨i + 1, ?_, ?_, hS.le (Le.cons rfl (Le.nilapp (Le.cons rfl (Le.cons rfl (Le.cons rfl (Le.nil _)))))), hR.sub (Ex.take (by repeat (first | with_reducible exact Pk.here | with_reducible apply Pk.there)) (Ex.nilapp (by repeat (first | with_reducible exact Ex.refl | (with_reducible apply Ex.take; · repeat (first | with_reducible exact Pk.here | with_reducible apply Pk.there)) | with_reducible apply Ex.drop))))⟩
    · omega
    · omega
  · intro hg hS
    have hi3 : i = 3 := by omega
    subst hi3
    refine condF hS rfl ?_
    refine wp_exit ?_
    refine hK234 _ _ ?_
    refine wp_seq_k ?_; intro K243 hK243
    refine wp_region_lit ?_
    refine sA hS hR (Yld.move hS rfl) (by decide) ?_; clear hS; intro aa hS
    refine sB (Bcall hS rfl Try.call11 (lrAll_ok  (hR.pk (r := lruA _ _ _ _ _ _ _ _ _) (by repeat (first | with_reducible exact Pk.here | with_reducible apply Pk.there)))) (by decide) ?_); clear hS; intro aa ww vv hS hp
    clear hR
    obtain ⟨ra, cra, rfl, hR⟩ := hp
    rw [a3_all] at hS hR
    refine sA hS hR (Yld.assign hS rfl) (by decide) ?_; clear hS; intro aa hS
    refine wpList_nil ?_
    refine hK243 _ _ ?_
    refine wp_seq_k ?_; intro K244 hK244
    refine wp_region_lit ?_
    refine sA hS hR (Yld.move hS rfl) (by decide) ?_; clear hS; intro aa hS
    refine sB (Bcall hS rfl Try.call19 (lrSee_ok (i := 2) (hR.pk (r := lruA _ _ _ _ _ _ _ _ _) (by repeat (first | with_reducible exact Pk.here | with_reducible apply Pk.there))) (by rw [awS_now (by omega)]; omega)) (by decide) ?_); clear hS; intro aa ww vv hS hp
    clear hR
    obtain ⟨rfl, hR⟩ := hp
    rw [show seeV 4 (awS 3).2.2 2 = .tuple [.int .i64 4, .int .i64 0].toArray from by rw [awS_now (by omega), seeV, if_pos (by decide)]; rfl] at hS; (try dsimp only at hS)
    change Sep (lruA 56 80 77 3 b 4 aw4O aw4T aw4N :: _) _ at hR
    refine sA hS hR (Yld.move hS rfl) (by decide) ?_; clear hS; intro aa hS
    refine sA hS hR (Yld.extract hS rfl rfl) (by decide) ?_; clear hS; intro aa hS
    refine sA hS hR (Yld.extract hS rfl rfl) (by decide) ?_; clear hS; intro aa hS
    refine sA hS hR (Yld.assign hS rfl) (by decide) ?_; clear hS; intro aa hS
    refine sA hS hR (Yld.assign hS rfl) (by decide) ?_; clear hS; intro aa hS
    refine wpList_nil ?_
    refine hK244 _ _ ?_
    refine wp_seq_k ?_; intro K245 hK245
    refine wp_region_lit ?_
    refine sA hS hR (Yld.move hS rfl) (by decide) ?_; clear hS; intro aa hS
    refine sB (Bcall hS rfl Try.call11 (lrAll_ok  (hR.pk (r := lruA _ _ _ _ _ _ _ _ _) (by repeat (first | with_reducible exact Pk.here | with_reducible apply Pk.there)))) (by decide) ?_); clear hS; intro aa ww vv hS hp
    clear hR
    obtain ⟨rb, crb, rfl, hR⟩ := hp
    rw [a4_all] at hS hR
    refine sA hS hR (Yld.move hS rfl) (by decide) ?_; clear hS; intro aa hS
    refine sB (Bcall hS rfl Try.call17 (lrSince_ok (t0 := 2) (hR.pk (r := lruA _ _ _ _ _ _ _ _ _) (by repeat (first | with_reducible exact Pk.here | with_reducible apply Pk.there)))) (by decide) ?_); clear hS; intro aa ww vv hS hp
    clear hR
    obtain ⟨rc, crc, rfl, hR⟩ := hp
    rw [a4_since] at hS hR
    refine sA hS hR (Yld.assign hS rfl) (by decide) ?_; clear hS; intro aa hS
    refine sA hS hR (Yld.assign hS rfl) (by decide) ?_; clear hS; intro aa hS
    refine wpList_nil ?_
    refine hK245 _ _ ?_
    refine wp_seq_k ?_; intro K246 hK246
    refine wp_region_lit ?_
    refine sA hS hR (Yld.move hS rfl) (by decide) ?_; clear hS; intro aa hS
    refine sB (Bcall hS rfl Try.call12 (lrOldest_ok (hR.pk (r := lruA _ _ _ _ _ _ _ _ _) (by repeat (first | with_reducible exact Pk.here | with_reducible apply Pk.there)))) (by decide) ?_); clear hS; intro aa ww vv hS hp
    clear hR
    obtain ⟨rfl, hR⟩ := hp
    rw [show (dirL 0 aw4O).head? = some 0 from by decide +kernel] at hS; (try dsimp only at hS); (try dsimp only [optV, Option.getD, Option.isSome] at hS)
    refine sA hS hR (Yld.move hS rfl) (by decide) ?_; clear hS; intro aa hS
    refine sA hS hR (Yld.extract hS rfl rfl) (by decide) ?_; clear hS; intro aa hS
    refine sA hS hR (Yld.extract hS rfl rfl) (by decide) ?_; clear hS; intro aa hS
    replace hS := hS.sayB (t := 66) true rfl (by rfl)
    refine sA hS hR (Yld.assign hS rfl) (by decide) ?_; clear hS; intro aa hS
    refine sA hS hR (Yld.assign hS rfl) (by decide) ?_; clear hS; intro aa hS
    refine wpList_nil ?_
    refine hK246 _ _ ?_
    refine wp_seq_k ?_; intro K247 hK247
    refine wp_region_lit ?_
    refine sA hS hR (Yld.move hS rfl) (by decide) ?_; clear hS; intro aa hS
    refine sB (Bcall hS rfl Try.call13 (lrOut_ok (i := 3) (hR.pk (r := lruA _ _ _ _ _ _ _ _ _) (by repeat (first | with_reducible exact Pk.here | with_reducible apply Pk.there)))) (by decide) ?_); clear hS; intro aa ww vv hS hp
    clear hR
    obtain ⟨rfl, hR⟩ := hp
    rw [show loutE 4 aw4O 3 = 0 from by decide +kernel] at hS; (try dsimp only at hS)
    change Sep (lruA 56 80 77 3 b 4 aw5O aw4T aw4N :: _) _ at hR
    refine sA hS hR (Yld.assign hS rfl) (by decide) ?_; clear hS; intro aa hS
    refine wpList_nil ?_
    refine hK247 _ _ ?_
    refine wp_seq_k ?_; intro K248 hK248
    refine wp_region_lit ?_
    refine sA hS hR (Yld.move hS rfl) (by decide) ?_; clear hS; intro aa hS
    refine sB (Bcall hS rfl Try.call20 (lrWhen_ok (i := 2) (hR.pk (r := lruA _ _ _ _ _ _ _ _ _) (by repeat (first | with_reducible exact Pk.here | with_reducible apply Pk.there)))) (by decide) ?_); clear hS; intro aa ww vv hS hp
    clear hR
    obtain ⟨rfl, hR⟩ := hp
    rw [show whenV 4 aw5O aw4T 2 = .tuple [.int .i64 4, .bool true].toArray from by kernel_rfl] at hS; (try dsimp only at hS)
    refine sA hS hR (Yld.move hS rfl) (by decide) ?_; clear hS; intro aa hS
    refine sA hS hR (Yld.extract hS rfl rfl) (by decide) ?_; clear hS; intro aa hS
    refine sA hS hR (Yld.extract hS rfl rfl) (by decide) ?_; clear hS; intro aa hS
    replace hS := hS.sayB (t := 73) true rfl (by rfl)
    refine sA hS hR (Yld.assign hS rfl) (by decide) ?_; clear hS; intro aa hS
    refine sA hS hR (Yld.assign hS rfl) (by decide) ?_; clear hS; intro aa hS
    refine wpList_nil ?_
    refine hK248 _ _ ?_
    refine wp_seq_k ?_; intro K249 hK249
    refine wp_region_lit ?_
    refine sA hS hR (Yld.move hS rfl) (by decide) ?_; clear hS; intro aa hS
    refine sB (Bcall hS rfl Try.call20 (lrWhen_ok (i := 3) (hR.pk (r := lruA _ _ _ _ _ _ _ _ _) (by repeat (first | with_reducible exact Pk.here | with_reducible apply Pk.there)))) (by decide) ?_); clear hS; intro aa ww vv hS hp
    clear hR
    obtain ⟨rfl, hR⟩ := hp
    rw [show whenV 4 aw5O aw4T 3 = .tuple [.int .i64 0, .bool false].toArray from by kernel_rfl] at hS; (try dsimp only at hS)
    refine sA hS hR (Yld.move hS rfl) (by decide) ?_; clear hS; intro aa hS
    refine sA hS hR (Yld.extract hS rfl rfl) (by decide) ?_; clear hS; intro aa hS
    refine sA hS hR (Yld.extract hS rfl rfl) (by decide) ?_; clear hS; intro aa hS
    replace hS := hS.sayB (t := 78) false rfl (by rfl)
    refine sA hS hR (Yld.assign hS rfl) (by decide) ?_; clear hS; intro aa hS
    refine sA hS hR (Yld.assign hS rfl) (by decide) ?_; clear hS; intro aa hS
    refine wpList_nil ?_
    refine hK249 _ _ ?_
    refine wp_seq_k ?_; intro K250 hK250
    refine wp_region_lit ?_
    refine sA hS hR (Yld.move hS rfl) (by decide) ?_; clear hS; intro aa hS
    refine sA hS hR (Yld.move hS rfl) (by decide) ?_; clear hS; intro aa hS
    refine sA hS hR ((by first | exact Yld.add64 hS rfl rfl (by omega) | exact Yld.add hS rfl rfl)) (by decide) ?_; clear hS; intro aa hS
    refine sA hS hR (Yld.eql hS rfl rfl) (by decide) ?_; clear hS; intro aa hS
    replace hS := hS.sayB (t := 82) true rfl (by decide)
    refine sA hS hR (Yld.move hS rfl) (by decide) ?_; clear hS; intro aa hS
    refine sAg hS hR rfl rfl (Yld.move hS rfl) (by decide) ?_; clear hS; intro aa hS
    refine sAg hS hR rfl rfl (Yld.eql hS rfl rfl) (by decide) ?_; clear hS; intro aa hS
    replace hS := hS.sayB (t := 85) true rfl (by decide)
    refine sA hS hR (Yld.pickT hS rfl rfl) (by decide) ?_; clear hS; intro aa hS
    refine sA hS hR (Yld.move hS rfl) (by decide) ?_; clear hS; intro aa hS
    refine sAg hS hR rfl rfl (Yld.move hS rfl) (by decide) ?_; clear hS; intro aa hS
    refine sA hS hR (Yld.pickT hS rfl rfl) (by decide) ?_; clear hS; intro aa hS
    refine sA hS hR (Yld.move hS rfl) (by decide) ?_; clear hS; intro aa hS
    refine sAg hS hR rfl rfl (Yld.move hS rfl) (by decide) ?_; clear hS; intro aa hS
    refine sAg hS hR rfl rfl (Yld.eql hS rfl rfl) (by decide) ?_; clear hS; intro aa hS
    replace hS := hS.sayB (t := 92) true rfl (by decide)
    refine sA hS hR (Yld.pickT hS rfl rfl) (by decide) ?_; clear hS; intro aa hS
    refine sA hS hR (Yld.move hS rfl) (by decide) ?_; clear hS; intro aa hS
    refine sAg hS hR rfl rfl (Yld.move hS rfl) (by decide) ?_; clear hS; intro aa hS
    refine sA hS hR (Yld.pickT hS rfl rfl) (by decide) ?_; clear hS; intro aa hS
    refine sA hS hR (Yld.move hS rfl) (by decide) ?_; clear hS; intro aa hS
    refine sAg hS hR rfl rfl (Yld.move hS rfl) (by decide) ?_; clear hS; intro aa hS
    refine sAg hS hR rfl rfl (Yld.eql hS rfl rfl) (by decide) ?_; clear hS; intro aa hS
    replace hS := hS.sayB (t := 99) true rfl (by decide)
    refine sA hS hR (Yld.pickT hS rfl rfl) (by decide) ?_; clear hS; intro aa hS
    refine sA hS hR (Yld.move hS rfl) (by decide) ?_; clear hS; intro aa hS
    refine sAg hS hR rfl rfl (Yld.move hS rfl) (by decide) ?_; clear hS; intro aa hS
    refine sAg hS hR rfl rfl (Yld.not hS rfl) (by decide) ?_; clear hS; intro aa hS
    refine sA hS hR (Yld.pickT hS rfl rfl) (by decide) ?_; clear hS; intro aa hS
    refine sA hS hR (Yld.move hS rfl) (by decide) ?_; clear hS; intro aa hS
    refine sAg hS hR rfl rfl (Yld.move hS rfl) (by decide) ?_; clear hS; intro aa hS
    refine sBg hS rfl rfl (BbuildSlice hS hR rfl (bls27_3_0_1_2 _ _ _) (by decide) ?_); clear hS hR; intro aa ww bb107 hS hR
    refine sBg hS rfl rfl (Bcall hS rfl Try.call14 (SameInts_ok hR (xs := [2, 0, 3]) (ys := [2, 0, 3]) (hR.intsSls (r := ra) (by repeat (first | with_reducible exact Pk.here | with_reducible apply Pk.there))) (IntsAt.blk (cs := [.int .i64 2, .int .i64 0, .int .i64 3]) (by repeat (first | with_reducible exact Pk.here | with_reducible apply Pk.there)) rfl) (by decide) (by decide)) (by decide) ?_); clear hS; intro aa ww vv hS hp
    clear hR
    obtain ⟨rfl, hR⟩ := hp
    replace hS := hS.sayB (t := 108) true rfl (by decide)
    refine sA hS hR (Yld.pickT hS rfl rfl) (by decide) ?_; clear hS; intro aa hS
    refine sA hS hR (Yld.move hS rfl) (by decide) ?_; clear hS; intro aa hS
    refine sAg hS hR rfl rfl (Yld.move hS rfl) (by decide) ?_; clear hS; intro aa hS
    refine sBg hS rfl rfl (BbuildSlice hS hR rfl (bls27_3_0_1_2 _ _ _) (by decide) ?_); clear hS hR; intro aa ww bb112 hS hR
    refine sBg hS rfl rfl (Bcall hS rfl Try.call14 (SameInts_ok hR (xs := [0, 3, 2]) (ys := [0, 3, 2]) (hR.intsSls (r := rb) (by repeat (first | with_reducible exact Pk.here | with_reducible apply Pk.there))) (IntsAt.blk (cs := [.int .i64 0, .int .i64 3, .int .i64 2]) (by repeat (first | with_reducible exact Pk.here | with_reducible apply Pk.there)) rfl) (by decide) (by decide)) (by decide) ?_); clear hS; intro aa ww vv hS hp
    clear hR
    obtain ⟨rfl, hR⟩ := hp
    replace hS := hS.sayB (t := 113) true rfl (by decide)
    refine sA hS hR (Yld.pickT hS rfl rfl) (by decide) ?_; clear hS; intro aa hS
    refine sA hS hR (Yld.move hS rfl) (by decide) ?_; clear hS; intro aa hS
    refine sAg hS hR rfl rfl (Yld.move hS rfl) (by decide) ?_; clear hS; intro aa hS
    refine sBg hS rfl rfl (BbuildSlice hS hR rfl (bls27_2_0_1 _ _) (by decide) ?_); clear hS hR; intro aa ww bb117 hS hR
    refine sBg hS rfl rfl (Bcall hS rfl Try.call14 (SameInts_ok hR (xs := [3, 2]) (ys := [3, 2]) (hR.intsSls (r := rc) (by repeat (first | with_reducible exact Pk.here | with_reducible apply Pk.there))) (IntsAt.blk (cs := [.int .i64 3, .int .i64 2]) (by repeat (first | with_reducible exact Pk.here | with_reducible apply Pk.there)) rfl) (by decide) (by decide)) (by decide) ?_); clear hS; intro aa ww vv hS hp
    clear hR
    obtain ⟨rfl, hR⟩ := hp
    replace hS := hS.sayB (t := 118) true rfl (by decide)
    refine sA hS hR (Yld.pickT hS rfl rfl) (by decide) ?_; clear hS; intro aa hS
    refine sA hS hR (Yld.move hS rfl) (by decide) ?_; clear hS; intro aa hS
    refine sAg hS hR rfl rfl (Yld.move hS rfl) (by decide) ?_; clear hS; intro aa hS
    refine sBg hS rfl rfl (Bcall hS rfl Try.call11 (lrAll_ok  (hR.pk (r := lruA _ _ _ _ _ _ _ _ _) (by repeat (first | with_reducible exact Pk.here | with_reducible apply Pk.there)))) (by decide) ?_); clear hS; intro aa ww vv hS hp
    clear hR
    obtain ⟨rd, crd, rfl, hR⟩ := hp
    rw [a5_all] at hS hR
    refine sBg hS rfl rfl (BbuildSlice hS hR rfl (bls27_2_0_1 _ _) (by decide) ?_); clear hS hR; intro aa ww bb123 hS hR
    refine sBg hS rfl rfl (Bcall hS rfl Try.call14 (SameInts_ok hR (xs := [0, 2]) (ys := [0, 2]) (hR.intsSls (r := rd) (by repeat (first | with_reducible exact Pk.here | with_reducible apply Pk.there))) (IntsAt.blk (cs := [.int .i64 0, .int .i64 2]) (by repeat (first | with_reducible exact Pk.here | with_reducible apply Pk.there)) rfl) (by decide) (by decide)) (by decide) ?_); clear hS; intro aa ww vv hS hp
    clear hR
    obtain ⟨rfl, hR⟩ := hp
    replace hS := hS.sayB (t := 124) true rfl (by decide)
    refine sA hS hR (Yld.pickT hS rfl rfl) (by decide) ?_; clear hS; intro aa hS
    refine sA hS hR (Yld.move hS rfl) (by decide) ?_; clear hS; intro aa hS
    refine sAg hS hR rfl rfl (Yld.move hS rfl) (by decide) ?_; clear hS; intro aa hS
    refine sBg hS rfl rfl (Bcall hS rfl Try.call15 (lrLen_ok (hR.pk (r := lruA _ _ _ _ _ _ _ _ _) (by repeat (first | with_reducible exact Pk.here | with_reducible apply Pk.there)))) (by decide) ?_); clear hS; intro aa ww vv hS hp
    clear hR
    obtain ⟨rfl, hR⟩ := hp
    rw [show aw5O.length = 2 from by decide +kernel] at hS; (try dsimp only at hS)
    refine sAg hS hR rfl rfl (Yld.eql hS rfl rfl) (by decide) ?_; clear hS; intro aa hS
    replace hS := hS.sayB (t := 129) true rfl (by decide)
    refine sA hS hR (Yld.pickT hS rfl rfl) (by decide) ?_; clear hS; intro aa hS
    refine sA hS hR (Yld.move hS rfl) (by decide) ?_; clear hS; intro aa hS
    refine sAg hS hR rfl rfl (Yld.move hS rfl) (by decide) ?_; clear hS; intro aa hS
    refine sBg hS rfl rfl (Bcall hS rfl Try.call18 (lrNow_ok (hR.pk (r := lruA _ _ _ _ _ _ _ _ _) (by repeat (first | with_reducible exact Pk.here | with_reducible apply Pk.there)))) (by decide) ?_); clear hS; intro aa ww vv hS hp
    clear hR
    obtain ⟨rfl, hR⟩ := hp
    rw [show aw4N = 4 from by decide +kernel] at hS; (try dsimp only at hS)
    refine sAg hS hR rfl rfl (Yld.eql hS rfl rfl) (by decide) ?_; clear hS; intro aa hS
    replace hS := hS.sayB (t := 134) true rfl (by decide)
    refine sA hS hR (Yld.pickT hS rfl rfl) (by decide) ?_; clear hS; intro aa hS
    refine sA hS hR (Yld.assign hS rfl) (by decide) ?_; clear hS; intro aa hS
    refine wpList_nil ?_
    refine hK250 _ _ ?_
    refine wp_ret ?_
    repeat (first | with_reducible refine thenR ?_ | with_reducible refine blockR ?_ | with_reducible refine scopeR ?_)
    refine ret1 (fn := Try.f16) (e := .ret) (.inl rfl) Try.results16 hS hR ⟨_, (.tmp rfl), ?_⟩
    exact ⟨rfl, (hR.sub (by repeat (first | with_reducible exact Ex.refl | (with_reducible apply Ex.take; · repeat (first | with_reducible exact Pk.here | with_reducible apply Pk.there)) | with_reducible apply Ex.drop)))⟩
end Go.Proofs.Ytojeibjlkbffcaa.Sx
