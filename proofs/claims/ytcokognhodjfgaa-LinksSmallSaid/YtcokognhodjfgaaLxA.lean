/-
  
-/
import Derived.Test.YtcokognhodjfgaaLkG
import Derived.Test.YtcokognhodjfgaaLkD
import Derived.Test.YtcokognhodjfgaaLkLaw
import Derived.Test.YtcokognhodjfgaaInts
namespace Go.Proofs.Ytcokognhodjfgaa.Sx
open Go
set_option linter.unusedVariables false
set_option linter.unusedSimpArgs false

theorem bls27_3_0_1_2 (x0 : Int) (x1 : Int) (x2 : Int) (w : World) : (Instr.buildSlice 27 3 [(0, .int .i64 x0), (1, .int .i64 x1), (2, .int .i64 x2)].toArray).run Try.prog w = .ok (.slice (some ⟨w.heap.size, 0, none⟩) 3 3) (w.alloc (.cells ([.int .i64 x0, .int .i64 x1, .int .i64 x2] : List Value).toArray 3)) := by kernel_rfl
theorem bls27_4_0_1_2_3 (x0 : Int) (x1 : Int) (x2 : Int) (x3 : Int) (w : World) : (Instr.buildSlice 27 4 [(0, .int .i64 x0), (1, .int .i64 x1), (2, .int .i64 x2), (3, .int .i64 x3)].toArray).run Try.prog w = .ok (.slice (some ⟨w.heap.size, 0, none⟩) 4 4) (w.alloc (.cells ([.int .i64 x0, .int .i64 x1, .int .i64 x2, .int .i64 x3] : List Value).toArray 3)) := by kernel_rfl

set_option maxRecDepth 20000 in
theorem SameInts_ok {q1 q2 : Option Addr} {c1 c2 : Nat} {xs ys : List Int} {l : List HP} {w : World} (hR : Sep l w) (s1 : IntsAt l q1 xs) (s2 : IntsAt l q2 ys) (hx : xs.length ≤ 9000) (hy : ys.length ≤ 9000) : CallR Try.prog 18 [.slice q1 xs.length c1, .slice q2 ys.length c2] w (fun v w' => v = .bool (decide (xs = ys)) ∧ Sep l w') := by
  refine enter Try.func18 rfl Try.ntmps18 (Nat.le_of_ble_eq_true rfl) ?_; intro aa hS
  refine wp_seq_k ?_; intro K183 hK183
  refine wp_region_lit ?_
  refine sA hS hR (Yld.assign hS rfl) (by decide) ?_; clear hS; intro aa hS
  refine wpList_nil ?_
  refine hK183 _ _ ?_
  refine wp_seq_k ?_; intro K184 hK184
  refine wp_seq_k ?_; intro K185 hK185
  refine wp_region_lit ?_
  refine sA hS hR (Yld.move hS rfl) (by decide) ?_; clear hS; intro aa hS
  refine sA hS hR (Yld.len hS rfl Try.underlying27) (by decide) ?_; clear hS; intro aa hS
  refine sA hS hR (Yld.move hS rfl) (by decide) ?_; clear hS; intro aa hS
  refine sA hS hR (Yld.len hS rfl Try.underlying27) (by decide) ?_; clear hS; intro aa hS
  refine sA hS hR (Yld.neq hS rfl rfl) (by decide) ?_; clear hS; intro aa hS
  refine wpList_nil ?_
  refine hK185 _ _ ?_
  refine hS.splitB (t := 10) rfl ?_ ?_ <;> clear hS
  · intro hg hS
    refine condT hS rfl ?_
    refine wp_seq_k ?_; intro K186 hK186
    refine wp_region_lit ?_
    refine sA hS hR (Yld.assign hS rfl) (by decide) ?_; clear hS; intro aa hS
    refine wpList_nil ?_
    refine hK186 _ _ ?_
    refine wp_ret ?_
    repeat (first | with_reducible refine thenR ?_ | with_reducible refine blockR ?_ | with_reducible refine scopeR ?_)
    refine ret1 (fn := Try.f18) (e := .ret) (.inl rfl) Try.results18 hS hR ⟨_, (.tmp rfl), ?_⟩
    refine ⟨?_, (hR.sub (by repeat (first | with_reducible exact Ex.refl | with_reducible apply Ex.drop)))⟩
    first
      | exact dec_no (fun e => by subst e; omega)
      | exact dec_no (fun e => by subst e; exact hg rfl)
      | exact dec_yes (by have h := hI.2; rw [List.take_of_length_le (by omega), List.take_of_length_le (by omega)] at h; exact h)
  · intro hg hS
    have hlen : xs.length = ys.length := by omega
    refine condF hS rfl ?_
    refine wp_skip ?_
    refine hK184 _ _ ?_
    refine wp_seq_k ?_; intro K187 hK187
    refine wp_seq_k ?_; intro K188 hK188
    refine wp_region_lit ?_
    refine sA hS hR (Yld.assign hS rfl) (by decide) ?_; clear hS; intro aa hS
    refine wpList_nil ?_
    refine hK188 _ _ ?_
    refine wp_block ?_
    refine loopI (X := Nat) [(0, _), (1, _)] (fun x => [(5, .int .i64 (x : Int))]) (fun x => []) _ (fun x => x ≤ xs.length ∧ xs.take x = ys.take x) (fun x => xs.length - x) 0 ⟨by omega, rfl⟩ (hS.le (Le.cons rfl (Le.nilapp (Le.cons rfl (Le.cons rfl (Le.nil _)))))) hR ?_
    clear hS hR; rintro k aa ww hI hS hR; dsimp only [List.cons_append, List.nil_append] at hI hS hR
    refine wp_seq_k ?_; intro K190 hK190
    refine wp_seq_k ?_; intro K191 hK191
    refine wp_region_lit ?_
    refine sA hS hR (Yld.move hS rfl) (by decide) ?_; clear hS; intro aa hS
    refine sA hS hR (Yld.move hS rfl) (by decide) ?_; clear hS; intro aa hS
    refine sA hS hR (Yld.len hS rfl Try.underlying27) (by decide) ?_; clear hS; intro aa hS
    refine sA hS hR (Yld.lss hS rfl rfl) (by decide) ?_; clear hS; intro aa hS
    refine wpList_nil ?_
    refine hK191 _ _ ?_
    refine hS.splitB (t := 14) rfl ?_ ?_ <;> clear hS
    · intro hg hS
      obtain ⟨b1, i1, hq1, hr1⟩ := s1 (by omega)
      obtain ⟨b2, i2, hq2, hr2⟩ := s2 (by omega)
      subst hq1 hq2
      have hk1 : k < xs.length := by omega
      have hk2 : k < ys.length := by omega
      refine condT hS rfl ?_
      refine wp_skip ?_
      refine hK190 _ _ ?_
      refine wp_seq_k ?_; intro K192 hK192
      refine wp_block ?_
      refine wp_seq_k ?_; intro K193 hK193
      refine drawn (by kernel_rfl) hR Ex.refl ?_; clear hR; intro ww hR hR0
      refine dA 0 rfl (by kernel_rfl) (by kernel_rfl) (by kernel_rfl) (fun _ _ _ h => h) hS hR0 (Yld.move hS rfl) (by decide) ?_; clear hS; intro aa hS
      refine dA 1 rfl (by kernel_rfl) (by kernel_rfl) (by kernel_rfl) (fun _ _ _ h => h) hS hR0 (Yld.move hS rfl) (by decide) ?_; clear hS; intro aa hS
      refine dA 2 rfl (by kernel_rfl) (by kernel_rfl) (by kernel_rfl) (fun _ _ _ h => h) hS hR0 ((by first | exact Yld.indexH (sz := 1) (_) hS rfl rfl Try.underlying27 info3 (by assumption) rfl (by first | rfl | omega) (by omega) | exact Yld.indexL (sz := 1) (_) hS rfl rfl Try.underlying27 info3 (by repeat (first | with_reducible exact Pk.here | with_reducible apply Pk.there)) rfl (by first | rfl | omega) (by omega) | exact Yld.indexB (sz := 1) (_) hS rfl rfl Try.underlying27 info3 rfl (by first | rfl | omega) (by omega) | exact Yld.indexSlice hS rfl rfl Try.underlying27 info3 (by omega) (by omega))) (by decide) ?_; clear hS; intro aa hS
      refine dA 3 rfl (by kernel_rfl) (by kernel_rfl) (by kernel_rfl) (fun _ _ _ h => h) hS hR0 (Yld.load1 hS rfl Try.underlying3 rfl ((hr1 k hk1).at (by show i1 + k * 1 = _; omega))) (by decide) ?_; clear hS; intro aa hS
      refine dA 4 rfl (by kernel_rfl) (by kernel_rfl) (by kernel_rfl) (fun _ _ _ h => h) hS hR0 (Yld.move hS rfl) (by decide) ?_; clear hS; intro aa hS
      refine dA 5 rfl (by kernel_rfl) (by kernel_rfl) (by kernel_rfl) (fun _ _ _ h => h) hS hR0 (Yld.move hS rfl) (by decide) ?_; clear hS; intro aa hS
      refine dA 6 rfl (by kernel_rfl) (by kernel_rfl) (by kernel_rfl) (fun _ _ _ h => h) hS hR0 ((by first | exact Yld.indexH (sz := 1) (_) hS rfl rfl Try.underlying27 info3 (by assumption) rfl (by first | rfl | omega) (by omega) | exact Yld.indexL (sz := 1) (_) hS rfl rfl Try.underlying27 info3 (by repeat (first | with_reducible exact Pk.here | with_reducible apply Pk.there)) rfl (by first | rfl | omega) (by omega) | exact Yld.indexB (sz := 1) (_) hS rfl rfl Try.underlying27 info3 rfl (by first | rfl | omega) (by omega) | exact Yld.indexSlice hS rfl rfl Try.underlying27 info3 (by omega) (by omega))) (by decide) ?_; clear hS; intro aa hS
      refine dA 7 rfl (by kernel_rfl) (by kernel_rfl) (by kernel_rfl) (fun _ _ _ h => h) hS hR0 (Yld.load1 hS rfl Try.underlying3 rfl ((hr2 k hk2).at (by show i2 + k * 1 = _; omega))) (by decide) ?_; clear hS; intro aa hS
      refine dA 8 rfl (by kernel_rfl) (by kernel_rfl) (by kernel_rfl) (fun _ _ _ h => h) hS hR0 (Yld.neq hS rfl rfl) (by decide) ?_; clear hS; intro aa hS
      refine wpAnyH_done (by kernel_rfl) ?_ _; clear hR0
      refine hK193 _ _ ?_
      refine hS.splitB (t := 25) rfl ?_ ?_ <;> clear hS
      · intro hg hS
        refine condT hS rfl ?_
        refine wp_seq_k ?_; intro K194 hK194
        refine wp_region_lit ?_
        refine sA hS hR (Yld.assign hS rfl) (by decide) ?_; clear hS; intro aa hS
        refine wpList_nil ?_
        refine hK194 _ _ ?_
        refine wp_ret ?_
        repeat (first | with_reducible refine thenR ?_ | with_reducible refine blockR ?_ | with_reducible refine scopeR ?_)
        refine ret1 (fn := Try.f18) (e := .ret) (.inl rfl) Try.results18 hS hR ⟨_, (.tmp rfl), ?_⟩
        refine ⟨?_, (hR.sub (by repeat (first | with_reducible exact Ex.refl | with_reducible apply Ex.drop)))⟩
        first
          | exact dec_no (fun e => by subst e; omega)
          | exact dec_no (fun e => by subst e; exact hg rfl)
          | exact dec_yes (by have h := hI.2; rw [List.take_of_length_le (by omega), List.take_of_length_le (by omega)] at h; exact h)
      · intro hg hS
        refine condF hS rfl ?_
        refine wp_skip ?_
        refine hK192 _ _ ?_
        refine wp_region_lit ?_
        refine sA hS hR (Yld.move hS rfl) (by decide) ?_; clear hS; intro aa hS
        refine sA hS hR ((by first | exact Yld.add64 hS rfl rfl (by omega) | exact Yld.add hS rfl rfl)) (by decide) ?_; clear hS; intro aa hS
        refine sA hS hR (Yld.assign hS rfl) (by decide) ?_; clear hS; intro aa hS
        refine wpList_nil ?_
        
        refine ⟨k + 1, ?_, ?_, hS.le (Le.cons rfl (Le.nilapp (Le.cons rfl (Le.cons rfl (Le.nil _))))), hR.sub (Ex.nilapp (by repeat (first | with_reducible exact Ex.refl | (with_reducible apply Ex.take; · repeat (first | with_reducible exact Pk.here | with_reducible apply Pk.there)) | with_reducible apply Ex.drop)))⟩
        · exact ⟨by omega, take_next hI.2 hk1 hk2 hg⟩
        · omega
    · intro hg hS
      refine condF hS rfl ?_
      refine wp_exit ?_
      refine hK187 _ _ ?_
      refine wp_seq_k ?_; intro K195 hK195
      refine wp_region_lit ?_
      refine sA hS hR (Yld.assign hS rfl) (by decide) ?_; clear hS; intro aa hS
      refine wpList_nil ?_
      refine hK195 _ _ ?_
      refine wp_ret ?_
      repeat (first | with_reducible refine thenR ?_ | with_reducible refine blockR ?_ | with_reducible refine scopeR ?_)
      refine ret1 (fn := Try.f18) (e := .ret) (.inl rfl) Try.results18 hS hR ⟨_, (.tmp rfl), ?_⟩
      refine ⟨?_, (hR.sub (by repeat (first | with_reducible exact Ex.refl | with_reducible apply Ex.drop)))⟩
      first
        | exact dec_no (fun e => by subst e; omega)
        | exact dec_no (fun e => by subst e; exact hg rfl)
        | exact dec_yes (by have h := hI.2; rw [List.take_of_length_le (by omega), List.take_of_length_le (by omega)] at h; exact h)
def aw0 : Nat → List Nat := fun _ => []
def aw1 := addS 5 2 aw0 1 0 3
def aw2 := addS 5 2 aw1 1 0 1
def aw3 := addS 5 2 aw2 0 0 4
def aw4 := outS 5 2 aw3 3
def aw5 := addS 5 2 aw4 1 1 3
def aw6 := addS 5 2 aw5 1 1 0
def aw7 := joinS 2 aw6 0 1
theorem aw3_all : cst (allS 2 aw3 0) = [4, 3, 1] := by decide +kernel
theorem aw7_all : cst (allS 2 aw7 0) = [4, 1, 3, 0] := by decide +kernel
theorem aw7_one : cst (allS 2 aw7 1) = [] := by decide +kernel
set_option maxHeartbeats 4000000 in
set_option maxRecDepth 20000 in
theorem awake_ok {l : List HP} {w : World} (hR : Sep l w) : CallR Try.prog 15 ([] : List Value) w (fun v w' => v = .bool true ∧ Sep l w') := by
  refine enter Try.func15 rfl Try.ntmps15 (Nat.le_of_ble_eq_true rfl) ?_; intro aa hS
  refine wp_seq_k ?_; intro K196 hK196
  refine wp_region_lit ?_
  refine sA hS hR (Yld.assign hS rfl) (by decide) ?_; clear hS; intro aa hS
  refine wpList_nil ?_
  refine hK196 _ _ ?_
  refine wp_seq_k ?_; intro K197 hK197
  refine wp_region_lit ?_
  refine sB (Bcall hS rfl Try.call19 (LNew_ok (S := 5) (n := 2) hR (by decide) (by decide) (by decide) (by decide)) (by decide) ?_); clear hS; intro aa ww vv hS hp
  clear hR
  obtain ⟨b, rfl, hR⟩ := hp
  change Sep (linksA 54 65 3 b 5 2 aw0 :: _) _ at hR
  refine sA hS hR (Yld.move hS rfl) (by decide) ?_; clear hS; intro aa hS
  refine sA hS hR (Yld.extract hS rfl rfl) (by decide) ?_; clear hS; intro aa hS
  refine sA hS hR (Yld.extract hS rfl rfl) (by decide) ?_; clear hS; intro aa hS
  refine sA hS hR (Yld.assign hS rfl) (by decide) ?_; clear hS; intro aa hS
  refine sA hS hR (Yld.assign hS rfl) (by decide) ?_; clear hS; intro aa hS
  refine wpList_nil ?_
  refine hK197 _ _ ?_
  refine wp_seq_k ?_; intro K198 hK198
  refine wp_seq_k ?_; intro K199 hK199
  refine wp_region_lit ?_
  refine sA hS hR (Yld.move hS rfl) (by decide) ?_; clear hS; intro aa hS
  refine sA hS hR (Yld.neq hS rfl rfl) (by decide) ?_; clear hS; intro aa hS
  replace hS := hS.sayB (t := 12) false rfl (by decide)
  refine sA hS hR (Yld.move hS rfl) (by decide) ?_; clear hS; intro aa hS
  refine sAg hS hR rfl rfl (Yld.move hS rfl) (by decide) ?_; clear hS; intro aa hS
  refine sAg hS hR rfl rfl (Yld.eqlNil hS rfl rfl Try.underlying23) (by decide) ?_; clear hS; intro aa hS
  replace hS := hS.sayB (t := 15) false rfl (by rfl)
  refine sA hS hR (Yld.pickF hS rfl rfl) (by decide) ?_; clear hS; intro aa hS
  refine wpList_nil ?_
  refine hK199 _ _ ?_
  refine condF hS rfl ?_
  refine wp_skip ?_
  refine hK198 _ _ ?_
  refine wp_seq_k ?_; intro K200 hK200
  refine wp_seq_k ?_; intro K201 hK201
  refine wp_region_lit ?_
  refine sA hS hR (Yld.move hS rfl) (by decide) ?_; clear hS; intro aa hS
  refine sB (Bcall hS rfl Try.call17 (LBack_ok (S := 5) (n := 2) (L := aw0) (x := 0) (y := 3) (hR.pk (r := linksA _ _ _ _ _ _ _) (by repeat (first | with_reducible exact Pk.here | with_reducible apply Pk.there)))) (by decide) ?_); clear hS; intro aa ww vv hS hp
  clear hR
  obtain ⟨rfl, hR⟩ := hp
  rw [show addE 5 2 aw0 0 3 = 0 from by decide +kernel] at hS; (try dsimp only at hS)
  change Sep (linksA 54 65 3 b 5 2 aw1 :: _) _ at hR
  refine sA hS hR (Yld.move hS rfl) (by decide) ?_; clear hS; intro aa hS
  refine sB (Bcall hS rfl Try.call17 (LBack_ok (S := 5) (n := 2) (L := aw1) (x := 0) (y := 1) (hR.pk (r := linksA _ _ _ _ _ _ _) (by repeat (first | with_reducible exact Pk.here | with_reducible apply Pk.there)))) (by decide) ?_); clear hS; intro aa ww vv hS hp
  clear hR
  obtain ⟨rfl, hR⟩ := hp
  rw [show addE 5 2 aw1 0 1 = 0 from by decide +kernel] at hS; (try dsimp only at hS)
  change Sep (linksA 54 65 3 b 5 2 aw2 :: _) _ at hR
  refine sA hS hR ((by first | exact Yld.add64 hS rfl rfl (by omega) | exact Yld.add hS rfl rfl)) (by decide) ?_; clear hS; intro aa hS
  refine sA hS hR (Yld.move hS rfl) (by decide) ?_; clear hS; intro aa hS
  refine sB (Bcall hS rfl Try.call14 (LFront_ok (S := 5) (n := 2) (L := aw2) (x := 0) (y := 4) (hR.pk (r := linksA _ _ _ _ _ _ _) (by repeat (first | with_reducible exact Pk.here | with_reducible apply Pk.there)))) (by decide) ?_); clear hS; intro aa ww vv hS hp
  clear hR
  obtain ⟨rfl, hR⟩ := hp
  rw [show addE 5 2 aw2 0 4 = 0 from by decide +kernel] at hS; (try dsimp only at hS)
  change Sep (linksA 54 65 3 b 5 2 aw3 :: _) _ at hR
  refine sA hS hR ((by first | exact Yld.add64 hS rfl rfl (by omega) | exact Yld.add hS rfl rfl)) (by decide) ?_; clear hS; intro aa hS
  refine sA hS hR (Yld.neq hS rfl rfl) (by decide) ?_; clear hS; intro aa hS
  replace hS := hS.sayB (t := 25) false rfl (by decide)
  refine sA hS hR (Yld.move hS rfl) (by decide) ?_; clear hS; intro aa hS
  refine sAg hS hR rfl rfl (Yld.move hS rfl) (by decide) ?_; clear hS; intro aa hS
  refine sBg hS rfl rfl (Bcall hS rfl Try.call17 (LBack_ok (S := 5) (n := 2) (L := aw3) (x := 1) (y := 3) (hR.pk (r := linksA _ _ _ _ _ _ _) (by repeat (first | with_reducible exact Pk.here | with_reducible apply Pk.there)))) (by decide) ?_); clear hS; intro aa ww vv hS hp
  clear hR
  obtain ⟨rfl, hR⟩ := hp
  rw [show addE 5 2 aw3 1 3 = 140 from by decide +kernel] at hS; (try dsimp only at hS)
  rw [show addS 5 2 aw3 1 1 3 = aw3 from by rw [addS, show addE 5 2 aw3 1 3 = 140 from by decide +kernel]; rfl] at hR
  refine sAg hS hR rfl rfl (Yld.neq hS rfl rfl) (by decide) ?_; clear hS; intro aa hS
  replace hS := hS.sayB (t := 29) false rfl (by decide)
  refine sA hS hR (Yld.pickF hS rfl rfl) (by decide) ?_; clear hS; intro aa hS
  refine sA hS hR (Yld.move hS rfl) (by decide) ?_; clear hS; intro aa hS
  refine sAg hS hR rfl rfl (Yld.move hS rfl) (by decide) ?_; clear hS; intro aa hS
  refine sBg hS rfl rfl (Bcall hS rfl Try.call10 (LAll_ok (S := 5) (n := 2) (L := aw3) (q := 0) (hR.pk (r := linksA _ _ _ _ _ _ _) (by repeat (first | with_reducible exact Pk.here | with_reducible apply Pk.there)))) (by decide) ?_); clear hS; intro aa ww vv hS hp
  clear hR
  obtain ⟨ra, ca, rfl, hR⟩ := hp
  rw [aw3_all] at hS hR
  refine sBg hS rfl rfl (BbuildSlice hS hR rfl (bls27_3_0_1_2 _ _ _) (by decide) ?_); clear hS hR; intro aa ww bb34 hS hR
  refine sBg hS rfl rfl (Bcall hS rfl Try.call18 (SameInts_ok hR (xs := [4, 3, 1]) (ys := [4, 3, 1]) (hR.intsSls (r := ra) (by repeat (first | with_reducible exact Pk.here | with_reducible apply Pk.there))) (IntsAt.blk (cs := [.int .i64 4, .int .i64 3, .int .i64 1]) (by repeat (first | with_reducible exact Pk.here | with_reducible apply Pk.there)) rfl) (by decide) (by decide)) (by decide) ?_); clear hS; intro aa ww vv hS hp
  clear hR
  obtain ⟨rfl, hR⟩ := hp
  replace hS := hS.sayB (t := 35) true rfl (by decide)
  refine sAg hS hR rfl rfl (Yld.not hS rfl) (by decide) ?_; clear hS; intro aa hS
  refine sA hS hR (Yld.pickF hS rfl rfl) (by decide) ?_; clear hS; intro aa hS
  refine wpList_nil ?_
  refine hK201 _ _ ?_
  refine condF hS rfl ?_
  refine wp_skip ?_
  refine hK200 _ _ ?_
  refine wp_seq_k ?_; intro K202 hK202
  refine wp_seq_k ?_; intro K203 hK203
  refine wp_region_lit ?_
  refine sA hS hR (Yld.move hS rfl) (by decide) ?_; clear hS; intro aa hS
  refine sB (Bcall hS rfl Try.call16 (LOut_ok (S := 5) (n := 2) (L := aw3) (x := 3) (hR.pk (r := linksA _ _ _ _ _ _ _) (by repeat (first | with_reducible exact Pk.here | with_reducible apply Pk.there)))) (by decide) ?_); clear hS; intro aa ww vv hS hp
  clear hR
  obtain ⟨rfl, hR⟩ := hp
  rw [show outE 5 2 aw3 3 = 0 from by decide +kernel] at hS; (try dsimp only at hS)
  change Sep (linksA 54 65 3 b 5 2 aw4 :: _) _ at hR
  refine sA hS hR (Yld.move hS rfl) (by decide) ?_; clear hS; intro aa hS
  refine sB (Bcall hS rfl Try.call17 (LBack_ok (S := 5) (n := 2) (L := aw4) (x := 1) (y := 3) (hR.pk (r := linksA _ _ _ _ _ _ _) (by repeat (first | with_reducible exact Pk.here | with_reducible apply Pk.there)))) (by decide) ?_); clear hS; intro aa ww vv hS hp
  clear hR
  obtain ⟨rfl, hR⟩ := hp
  rw [show addE 5 2 aw4 1 3 = 0 from by decide +kernel] at hS; (try dsimp only at hS)
  change Sep (linksA 54 65 3 b 5 2 aw5 :: _) _ at hR
  refine sA hS hR ((by first | exact Yld.add64 hS rfl rfl (by omega) | exact Yld.add hS rfl rfl)) (by decide) ?_; clear hS; intro aa hS
  refine sA hS hR (Yld.move hS rfl) (by decide) ?_; clear hS; intro aa hS
  refine sB (Bcall hS rfl Try.call17 (LBack_ok (S := 5) (n := 2) (L := aw5) (x := 1) (y := 0) (hR.pk (r := linksA _ _ _ _ _ _ _) (by repeat (first | with_reducible exact Pk.here | with_reducible apply Pk.there)))) (by decide) ?_); clear hS; intro aa ww vv hS hp
  clear hR
  obtain ⟨rfl, hR⟩ := hp
  rw [show addE 5 2 aw5 1 0 = 0 from by decide +kernel] at hS; (try dsimp only at hS)
  change Sep (linksA 54 65 3 b 5 2 aw6 :: _) _ at hR
  refine sA hS hR ((by first | exact Yld.add64 hS rfl rfl (by omega) | exact Yld.add hS rfl rfl)) (by decide) ?_; clear hS; intro aa hS
  refine sA hS hR (Yld.move hS rfl) (by decide) ?_; clear hS; intro aa hS
  refine sB (Bcall hS rfl Try.call29 (LJoin_ok (S := 5) (n := 2) (L := aw6) (tq := 0) (fq := 1) (hR.pk (r := linksA _ _ _ _ _ _ _) (by repeat (first | with_reducible exact Pk.here | with_reducible apply Pk.there)))) (by decide) ?_); clear hS; intro aa ww vv hS hp
  clear hR
  obtain ⟨rfl, hR⟩ := hp
  rw [show joinE 2 0 1 = 0 from by decide +kernel] at hS; (try dsimp only at hS)
  change Sep (linksA 54 65 3 b 5 2 aw7 :: _) _ at hR
  refine sA hS hR ((by first | exact Yld.add64 hS rfl rfl (by omega) | exact Yld.add hS rfl rfl)) (by decide) ?_; clear hS; intro aa hS
  refine sA hS hR (Yld.neq hS rfl rfl) (by decide) ?_; clear hS; intro aa hS
  replace hS := hS.sayB (t := 49) false rfl (by decide)
  refine wpList_nil ?_
  refine hK203 _ _ ?_
  refine condF hS rfl ?_
  refine wp_skip ?_
  refine hK202 _ _ ?_
  refine wp_seq_k ?_; intro K204 hK204
  refine wp_region_lit ?_
  refine sA hS hR (Yld.move hS rfl) (by decide) ?_; clear hS; intro aa hS
  refine sB (Bcall hS rfl Try.call11 (LOf_ok (S := 5) (n := 2) (L := aw7) (x := 3) (hR.pk (r := linksA _ _ _ _ _ _ _) (by repeat (first | with_reducible exact Pk.here | with_reducible apply Pk.there)))) (by decide) ?_); clear hS; intro aa ww vv hS hp
  clear hR
  obtain ⟨rfl, hR⟩ := hp
  rw [show ofS 5 2 aw7 3 = some 0 from by decide +kernel] at hS; (try dsimp only at hS)
  refine sA hS hR (Yld.move hS rfl) (by decide) ?_; clear hS; intro aa hS
  refine sA hS hR (Yld.extract hS rfl rfl) (by decide) ?_; clear hS; intro aa hS
  refine sA hS hR (Yld.extract hS rfl rfl) (by decide) ?_; clear hS; intro aa hS
  replace hS := hS.sayB (t := 54) true rfl (by rfl)
  refine sA hS hR (Yld.assign hS rfl) (by decide) ?_; clear hS; intro aa hS
  refine sA hS hR (Yld.assign hS rfl) (by decide) ?_; clear hS; intro aa hS
  refine wpList_nil ?_
  refine hK204 _ _ ?_
  refine wp_seq_k ?_; intro K205 hK205
  refine wp_region_lit ?_
  refine sA hS hR (Yld.move hS rfl) (by decide) ?_; clear hS; intro aa hS
  refine sB (Bcall hS rfl Try.call28 (LBefore_ok (S := 5) (n := 2) (L := aw7) (x := 3) (hR.pk (r := linksA _ _ _ _ _ _ _) (by repeat (first | with_reducible exact Pk.here | with_reducible apply Pk.there)))) (by decide) ?_); clear hS; intro aa ww vv hS hp
  clear hR
  obtain ⟨rfl, hR⟩ := hp
  rw [show stepS 5 2 aw7 1 3 = some 1 from by decide +kernel] at hS; (try dsimp only at hS)
  refine sA hS hR (Yld.move hS rfl) (by decide) ?_; clear hS; intro aa hS
  refine sA hS hR (Yld.extract hS rfl rfl) (by decide) ?_; clear hS; intro aa hS
  refine sA hS hR (Yld.extract hS rfl rfl) (by decide) ?_; clear hS; intro aa hS
  replace hS := hS.sayB (t := 59) true rfl (by rfl)
  refine sA hS hR (Yld.assign hS rfl) (by decide) ?_; clear hS; intro aa hS
  refine sA hS hR (Yld.assign hS rfl) (by decide) ?_; clear hS; intro aa hS
  refine wpList_nil ?_
  refine hK205 _ _ ?_
  refine wp_seq_k ?_; intro K206 hK206
  refine wp_region_lit ?_
  refine sA hS hR (Yld.move hS rfl) (by decide) ?_; clear hS; intro aa hS
  refine sA hS hR (Yld.move hS rfl) (by decide) ?_; clear hS; intro aa hS
  refine sAg hS hR rfl rfl (Yld.move hS rfl) (by decide) ?_; clear hS; intro aa hS
  refine sA hS hR (Yld.pickT hS rfl rfl) (by decide) ?_; clear hS; intro aa hS
  refine sA hS hR (Yld.move hS rfl) (by decide) ?_; clear hS; intro aa hS
  refine sAg hS hR rfl rfl (Yld.move hS rfl) (by decide) ?_; clear hS; intro aa hS
  refine sAg hS hR rfl rfl (Yld.eql hS rfl rfl) (by decide) ?_; clear hS; intro aa hS
  replace hS := hS.sayB (t := 66) true rfl (by decide)
  refine sA hS hR (Yld.pickT hS rfl rfl) (by decide) ?_; clear hS; intro aa hS
  refine sA hS hR (Yld.move hS rfl) (by decide) ?_; clear hS; intro aa hS
  refine sAg hS hR rfl rfl (Yld.move hS rfl) (by decide) ?_; clear hS; intro aa hS
  refine sAg hS hR rfl rfl (Yld.eql hS rfl rfl) (by decide) ?_; clear hS; intro aa hS
  replace hS := hS.sayB (t := 70) true rfl (by decide)
  refine sA hS hR (Yld.pickT hS rfl rfl) (by decide) ?_; clear hS; intro aa hS
  refine sA hS hR (Yld.move hS rfl) (by decide) ?_; clear hS; intro aa hS
  refine sAg hS hR rfl rfl (Yld.move hS rfl) (by decide) ?_; clear hS; intro aa hS
  refine sBg hS rfl rfl (Bcall hS rfl Try.call10 (LAll_ok (S := 5) (n := 2) (L := aw7) (q := 0) (hR.pk (r := linksA _ _ _ _ _ _ _) (by repeat (first | with_reducible exact Pk.here | with_reducible apply Pk.there)))) (by decide) ?_); clear hS; intro aa ww vv hS hp
  clear hR
  obtain ⟨ra, ca, rfl, hR⟩ := hp
  rw [aw7_all] at hS hR
  refine sBg hS rfl rfl (BbuildSlice hS hR rfl (bls27_4_0_1_2_3 _ _ _ _) (by decide) ?_); clear hS hR; intro aa ww bb75 hS hR
  refine sBg hS rfl rfl (Bcall hS rfl Try.call18 (SameInts_ok hR (xs := [4, 1, 3, 0]) (ys := [4, 1, 3, 0]) (hR.intsSls (r := ra) (by repeat (first | with_reducible exact Pk.here | with_reducible apply Pk.there))) (IntsAt.blk (cs := [.int .i64 4, .int .i64 1, .int .i64 3, .int .i64 0]) (by repeat (first | with_reducible exact Pk.here | with_reducible apply Pk.there)) rfl) (by decide) (by decide)) (by decide) ?_); clear hS; intro aa ww vv hS hp
  clear hR
  obtain ⟨rfl, hR⟩ := hp
  replace hS := hS.sayB (t := 76) true rfl (by decide)
  refine sA hS hR (Yld.pickT hS rfl rfl) (by decide) ?_; clear hS; intro aa hS
  refine sA hS hR (Yld.move hS rfl) (by decide) ?_; clear hS; intro aa hS
  refine sAg hS hR rfl rfl (Yld.move hS rfl) (by decide) ?_; clear hS; intro aa hS
  refine sBg hS rfl rfl (Bcall hS rfl Try.call10 (LAll_ok (S := 5) (n := 2) (L := aw7) (q := 1) (hR.pk (r := linksA _ _ _ _ _ _ _) (by repeat (first | with_reducible exact Pk.here | with_reducible apply Pk.there)))) (by decide) ?_); clear hS; intro aa ww vv hS hp
  clear hR
  obtain ⟨rb, cb, rfl, hR⟩ := hp
  rw [aw7_one] at hS hR
  refine sAg hS hR rfl rfl (Yld.len hS rfl Try.underlying27) (by decide) ?_; clear hS; intro aa hS
  refine sAg hS hR rfl rfl (Yld.move hS rfl) (by decide) ?_; clear hS; intro aa hS
  refine sBg hS rfl rfl (Bcall hS rfl Try.call26 (LLen_ok (S := 5) (n := 2) (L := aw7) (x := 1) (hR.pk (r := linksA _ _ _ _ _ _ _) (by repeat (first | with_reducible exact Pk.here | with_reducible apply Pk.there)))) (by decide) ?_); clear hS; intro aa ww vv hS hp
  clear hR
  obtain ⟨rfl, hR⟩ := hp
  rw [show allS 2 aw7 1 = ([] : List Nat) from by decide +kernel] at hS; (try dsimp only at hS)
  refine sAg hS hR rfl rfl ((by first | exact Yld.add64 hS rfl rfl (by omega) | exact Yld.add hS rfl rfl)) (by decide) ?_; clear hS; intro aa hS
  refine sAg hS hR rfl rfl (Yld.eql hS rfl rfl) (by decide) ?_; clear hS; intro aa hS
  replace hS := hS.sayB (t := 85) true rfl (by decide)
  refine sA hS hR (Yld.pickT hS rfl rfl) (by decide) ?_; clear hS; intro aa hS
  refine sA hS hR (Yld.move hS rfl) (by decide) ?_; clear hS; intro aa hS
  refine sAg hS hR rfl rfl (Yld.move hS rfl) (by decide) ?_; clear hS; intro aa hS
  refine sBg hS rfl rfl (Bcall hS rfl Try.call26 (LLen_ok (S := 5) (n := 2) (L := aw7) (x := 0) (hR.pk (r := linksA _ _ _ _ _ _ _) (by repeat (first | with_reducible exact Pk.here | with_reducible apply Pk.there)))) (by decide) ?_); clear hS; intro aa ww vv hS hp
  clear hR
  obtain ⟨rfl, hR⟩ := hp
  rw [show allS 2 aw7 0 = [4, 1, 3, 0] from by decide +kernel] at hS; (try dsimp only at hS)
  refine sAg hS hR rfl rfl (Yld.eql hS rfl rfl) (by decide) ?_; clear hS; intro aa hS
  replace hS := hS.sayB (t := 90) true rfl (by decide)
  refine sA hS hR (Yld.pickT hS rfl rfl) (by decide) ?_; clear hS; intro aa hS
  refine sA hS hR (Yld.assign hS rfl) (by decide) ?_; clear hS; intro aa hS
  refine wpList_nil ?_
  refine hK206 _ _ ?_
  refine wp_ret ?_
  repeat (first | with_reducible refine thenR ?_ | with_reducible refine blockR ?_ | with_reducible refine scopeR ?_)
  refine ret1 (fn := Try.f15) (e := .ret) (.inl rfl) Try.results15 hS hR ⟨_, (.tmp rfl), ?_⟩
  exact ⟨rfl, (hR.sub (by repeat (first | with_reducible exact Ex.refl | (with_reducible apply Ex.take; · repeat (first | with_reducible exact Pk.here | with_reducible apply Pk.there)) | with_reducible apply Ex.drop)))⟩
end Go.Proofs.Ytcokognhodjfgaa.Sx
