/-
 
-/
import Derived.Test.YtkhdejjompbklaaGreatOLwB
import Derived.Test.YtkhdejjompbklaaGreatOPzf
import Derived.Test.YtkhdejjompbklaaGreatOPzi
namespace Go.Proofs.YtkhdejjompbklaaGreat.Sx
open Go
set_option maxRecDepth 20000
set_option linter.unusedVariables false
set_option linter.unusedSimpArgs false
theorem bls36_0_  (w : World) : (Instr.buildSlice 36 0 [].toArray).run Tryz.prog w = .ok (.slice (some ⟨w.heap.size, 0, none⟩) 0 0) (w.alloc (.cells ([] : List Value).toArray 3)) := by kernel_rfl
theorem eqlS36 (o1 o2 : Operand) (r : Option Addr) (n c : Nat) (w : World) : (do eqGuard .eql 36 o1 o2 (.slice r n c) (.slice none 0 0); binOp .eql 36 (.slice r n c) (.slice none 0 0) : Sem Value).run Tryz.prog w = .ok (.bool r.isNone) w := by
 cases r <;> kernel_rfl
theorem clone_ok {q1 : Option Addr} {c1 : Nat} {xs : List Int} {l : List HP} {w : World} (hx : xs.length ≤ 9000) (hR : Sep (sls q1 xs.length c1 3 1 (xs.flatMap e1) :: l) w) : CallR Tryz.prog 16 [.slice q1 xs.length c1] w (fun v w' => ∃ r c, v = .slice r xs.length c ∧ Sep (sls r xs.length c 3 1 (xs.flatMap e1) :: sls q1 xs.length c1 3 1 (xs.flatMap e1) :: l) w') := by
 refine enter Tryz.func16 rfl Tryz.ntmps16 (Nat.le_of_ble_eq_true rfl) ?_; intro aa hS
 refine wp_seq_k ?_; intro K1016 hK1016
 refine wp_region_lit ?_
 revert aa
 refine qN hR ?_
 intro aa hS
 refine wpList_nil ?_
 refine hK1016 _ _ ?_
 refine wp_seq_k ?_; intro K1017 hK1017
 refine wp_seq_k ?_; intro K1018 hK1018
 refine wp_region_lit ?_
 revert aa
 refine qM hR ?_
 refine qA hR rfl (fun _ hS => Yld.binRun hS rfl rfl (eqlS36 _ _ _ _ _)) ?_
 intro aa hS
 refine wpList_nil ?_
 refine hK1018 _ _ ?_
 refine hS.splitB (t := 4) rfl ?_ ?_ <;> clear hS
 ·
  intro hg hS
  have hx0 : xs = [] := by
   rcases (hR.pk (r := sls q1 _ _ _ _ _) pkQ).slsE with ⟨h1, h2, h3, h4, h5⟩ | ⟨b, rest, h1, h2, h3, h4, h5⟩
   ·
    exact List.length_eq_zero_iff.1 h2
   ·
    rw [h1] at hg; cases hg
  subst hx0
  refine condT hS rfl ?_
  refine wp_seq_k ?_; intro K1019 hK1019
  refine wp_region_lit ?_
  revert aa
  refine qN hR ?_
  intro aa hS
  refine wpList_nil ?_
  refine hK1019 _ _ ?_
  refine wp_ret ?_
  repeat first | with_reducible refine thenR ?_ | with_reducible refine blockR ?_ | with_reducible refine scopeR ?_
  refine ret1 (fn := Tryz.f16) (e := .ret) (.inl rfl) Tryz.results16 hS hR ⟨_, (.tmp rfl), ?_⟩
  replace hR : Sep (sls none ([] : List Int).length 0 3 1 (([] : List Int).flatMap e1) :: _) _ := hR.slsNil (T := 3) (sz := 1)
  exact ⟨none, 0, rfl, (hR.sub exQ)⟩
 ·
  intro hg hS
  refine condF hS rfl ?_
  refine wp_skip ?_
  refine hK1017 _ _ ?_
  refine wp_seq_k ?_; intro K1020 hK1020
  refine wp_region_lit ?_
  refine sB (BbuildSlice hS hR rfl (bls36_0_) (by decide) ?_); clear hS hR; intro aa ww bb5 hS hR
  replace hR := hR.pk (r := blk bb5 _ _) pkQ
  replace hR := Sep.toRecs (m := 0) (sz := 1) (enc := e1) (([] : List Int)) hR rfl (by intro _; rfl) rfl
  revert aa
  refine qM hR ?_
  intro aa hS
  refine sB (BappendR (sz := 1) hS hR rfl rfl Tryz.underlying36 info3 rfl rfl (by rfl) pkQ (XC.all pkQ) (by intro _; rfl) (by show (_ + _) * 8 ≤ _; exact lenQ) lenQ (by first | rfl | (simp; done) | (simp; omega)) (by decide) ?_); clear hS hR; intro aa ww r7 c7 hS hR
  rw [List.nil_append] at hS hR
  revert aa
  refine qN hR ?_
  intro aa hS
  refine wpList_nil ?_
  refine hK1020 _ _ ?_
  refine wp_ret ?_
  repeat first | with_reducible refine thenR ?_ | with_reducible refine blockR ?_ | with_reducible refine scopeR ?_
  refine ret1 (fn := Tryz.f16) (e := .ret) (.inl rfl) Tryz.results16 hS hR ⟨_, (.tmp rfl), ?_⟩
  exact ⟨_, _, rfl, (hR.sub exQ)⟩
theorem aod_is {x z : Int} {bz : Nat} {l : List HP} {w : World} (hR : Sep (blk bz [.int .i64 z] 3 :: l) w) : CallR Tryz.prog 17 [.int .i64 x, .pointer (some ⟨bz, 0, none⟩)] w (fun v w' => v = .bool (decide (x = z)) ∧ Sep (blk bz [.int .i64 z] 3 :: l) w') := by
 refine enter Tryz.func17 rfl Tryz.ntmps17 (Nat.le_of_ble_eq_true rfl) ?_; intro aa hS
 refine wp_seq_k ?_; intro K1021 hK1021
 refine wp_region_lit ?_
 revert aa
 refine qN hR ?_
 intro aa hS
 refine wpList_nil ?_
 refine hK1021 _ _ ?_
 refine wp_seq_k ?_; intro K1022 hK1022
 refine wp_region_lit ?_
 revert aa
 refine qM hR ?_
 refine qA hR rfl (fun _ hS => Yld.load1 hS rfl Tryz.underlying3 rfl rdQ) ?_
 refine qA hR rfl (fun _ hS => Yld.eql hS rfl rfl) ?_
 refine qN hR ?_
 intro aa hS
 refine wpList_nil ?_
 refine hK1022 _ _ ?_
 refine wp_ret ?_
 repeat first | with_reducible refine thenR ?_ | with_reducible refine blockR ?_ | with_reducible refine scopeR ?_
 refine ret1 (fn := Tryz.f17) (e := .ret) (.inl rfl) Tryz.results17 hS hR ⟨_, (.tmp rfl), ?_⟩
 exact ⟨rfl, (hR.sub exQ)⟩
set_option maxHeartbeats 1000000 in
theorem aod_idx {xs : List Int} {z : Int} {r : Option Addr} {c bz : Nat} {l : List HP} {w : World} (hx : xs.length ≤ 9000) (hR : Sep (sls r xs.length c 3 1 (xs.flatMap e1) :: blk bz [.int .i64 z] 3 :: l) w) : CallR Tryz.prog 41 [.slice r xs.length c, .func (.func 17) #[] #[.pointer (some ⟨bz, 0, none⟩)]] w (fun v w' => (((∀ x ∈ xs, x ≠ z) ∧ v = .int .i64 (-1)) ∨ ∃ (k : Nat) (hk : k < xs.length), xs[k] = z ∧ (∀ x ∈ xs.take k, x ≠ z) ∧ v = .int .i64 (k : Int)) ∧ Sep (sls r xs.length c 3 1 (xs.flatMap e1) :: blk bz [.int .i64 z] 3 :: l) w') := by
 refine enter Tryz.func41 rfl Tryz.ntmps41 (Nat.le_of_ble_eq_true rfl) ?_; intro aa hS
 refine wp_seq_k ?_; intro K1023 hK1023
 refine wp_region_lit ?_
 revert aa
 refine qN hR ?_
 intro aa hS
 refine wpList_nil ?_
 refine hK1023 _ _ ?_
 refine wp_seq_k ?_; intro K1024 hK1024
 refine wp_seq_k ?_; intro K1025 hK1025
 refine wp_region_lit ?_
 revert aa
 refine qM hR ?_
 refine qA hR rfl (fun _ hS => Yld.len hS rfl Tryz.underlying36) ?_
 refine qM hR ?_
 intro aa hS
 refine wpList_nil ?_
 refine hK1025 _ _ ?_
 refine wp_block ?_
 refine loopI (X := Nat) [(0, _), (1, _), (7, _)] (fun x => [(8, .int .i64 (x : Int))]) (fun x => []) _ (fun x => x ≤ xs.length ∧ ∀ y ∈ xs.take x, y ≠ z) (fun x => xs.length - x) 0 ⟨Nat.zero_le _, by simp⟩ (hS.le (Le.cons rfl (Le.nilapp (Le.cons rfl (Le.cons rfl (Le.cons rfl (Le.nil _))))))) hR ?_
 clear hS hR; rintro k aa ww hI hS hR; dsimp only [List.cons_append, List.nil_append] at hI hS hR
 refine wp_seq_k ?_; intro K1027 hK1027
 refine wp_region_lit ?_
 refine sA hS hR (Yld.lss hS rfl rfl) (by decide) ?_; clear hS; intro aa hS
 refine wpList_nil ?_
 refine hK1027 _ _ ?_
 refine wp_seq_k ?_; intro K1028 hK1028
 refine hS.splitB (t := 9) rfl ?_ ?_ <;> clear hS
 ·
  intro hg hS
  have hkl : k < xs.length := by omega
  obtain ⟨x0, hx0⟩ : ∃ y : Int, xs[k] = y := ⟨_, rfl⟩
  refine condT hS rfl ?_
  refine wp_skip ?_
  refine hK1028 _ _ ?_
  refine wp_seq_k ?_; intro K1029 hK1029
  refine wp_block ?_
  refine wp_seq_k ?_; intro K1030 hK1030
  refine wp_region_lit ?_
  revert aa
  refine qM hR ?_
  refine qN hR ?_
  intro aa hS
  refine wpList_nil ?_
  refine hK1030 _ _ ?_
  refine wp_seq_k ?_; intro K1031 hK1031
  refine wp_region_lit ?_
  revert aa
  refine qM hR ?_
  refine qM hR ?_
  refine qM hR ?_
  refine qA hR rfl (fun _ hS => ilQ 1 (k) Tryz.underlying36 info3) ?_
  refine qA hR rfl (fun _ hS => Yld.load1 hS rfl Tryz.underlying3 rfl (Rd.rec0 (k := k) (xs := xs) (v := .int .i64 x0) pkQ (by intro _; rfl) hkl (by rw [hx0]; rfl))) ?_
  intro aa hS
  refine sB (BcallV (first := []) (caps := [.pointer (some ⟨bz, 0, none⟩)]) hS rfl rfl Tryz.call17 (aod_is (x := x0) (z := z) (bz := bz) (hR.pk (r := blk bz _ _) pkQ)) (by decide) ?_); clear hS; intro aa ww vv hS hp
  clear hR
  obtain ⟨rfl, hR⟩ := hp
  refine wpList_nil ?_
  refine hK1031 _ _ ?_
  refine hS.splitB (t := 16) rfl ?_ ?_ <;> clear hS
  ·
   intro hg hS
   refine condT hS rfl ?_
   refine wp_seq_k ?_; intro K1032 hK1032
   refine wp_region_lit ?_
   revert aa
   refine qM hR ?_
   refine qN hR ?_
   intro aa hS
   refine wpList_nil ?_
   refine hK1032 _ _ ?_
   refine wp_ret ?_
   repeat first | with_reducible refine thenR ?_ | with_reducible refine blockR ?_ | with_reducible refine scopeR ?_
   refine ret1 (fn := Tryz.f41) (e := .ret) (.inl rfl) Tryz.results41 hS hR ⟨_, (.tmp rfl), ?_⟩
   exact ⟨.inr ⟨k, hkl, by rw [hx0]; exact hg, hI.2, rfl⟩, (hR.sub exQ)⟩
  ·
   intro hg hS
   have hnx : ∀ x ∈ xs.take (k + 1), x ≠ z := by
    intro x hx
    rw [List.take_succ_eq_append_getElem hkl] at hx
    rcases List.mem_append.1 hx with hx | hx
    ·
     exact hI.2 x hx
    ·
     simp only [List.mem_singleton] at hx
     rw [hx, hx0]; exact hg
   refine condF hS rfl ?_
   refine wp_skip ?_
   refine hK1029 _ _ ?_
   refine wp_region_lit ?_
   refine sA hS hR adQ (by decide) ?_; clear hS; intro aa hS
   revert aa
   refine qM hR ?_
   intro aa hS
   refine wpList_nil ?_
   refine ⟨k + 1, ?_, ?_, hS.le (Le.cons rfl (Le.nilapp (Le.cons rfl (Le.cons rfl (Le.cons rfl (Le.nil _)))))), hR.sub (Ex.nilapp exQ)⟩
   ·
    exact ⟨by omega, hnx⟩
   ·
    omega
 ·
  intro hg hS
  have hall := hI.2
  rw [List.take_of_length_le (by omega)] at hall
  refine condF hS rfl ?_
  refine wp_exit ?_
  refine hK1024 _ _ ?_
  refine wp_seq_k ?_; intro K1033 hK1033
  refine wp_region_lit ?_
  revert aa
  refine qN hR ?_
  intro aa hS
  refine wpList_nil ?_
  refine hK1033 _ _ ?_
  refine wp_ret ?_
  repeat first | with_reducible refine thenR ?_ | with_reducible refine blockR ?_ | with_reducible refine scopeR ?_
  refine ret1 (fn := Tryz.f41) (e := .ret) (.inl rfl) Tryz.results41 hS hR ⟨_, (.tmp rfl), ?_⟩
  exact ⟨.inl ⟨hall, rfl⟩, (hR.sub exQ)⟩
set_option maxHeartbeats 2000000 in
theorem aod_ok {xs : List Int} {z : Int} {r : Option Addr} {c bz : Nat} {l : List HP} {w : World} (hx : xs.length ≤ 9000) (hR : Sep (sls r xs.length c 3 1 (xs.flatMap e1) :: blk bz [.int .i64 z] 3 :: l) w) : CallR Tryz.prog 15 [.slice r xs.length c, .func (.func 17) #[] #[.pointer (some ⟨bz, 0, none⟩)]] w (fun v w' => v = .slice r (butZ xs z).length c ∧ Sep (sls r (butZ xs z).length c 3 1 ((butZ xs z).flatMap e1) :: blk bz [.int .i64 z] 3 :: l) w') := by
 refine enter Tryz.func15 rfl Tryz.ntmps15 (Nat.le_of_ble_eq_true rfl) ?_; intro aa hS
 have hcp := (hR.pk (r := sls r _ _ _ _ _) pkQ).slsLe.1
 refine wp_seq_k ?_; intro K1034 hK1034
 refine wp_region_lit ?_
 revert aa
 refine qN hR ?_
 intro aa hS
 refine wpList_nil ?_
 refine hK1034 _ _ ?_
 refine wp_seq_k ?_; intro K1035 hK1035
 refine wp_region_lit ?_
 revert aa
 refine qM hR ?_
 refine qM hR ?_
 intro aa hS
 refine sB (Bcall hS rfl Tryz.call41 (aod_idx hx ((hR.pk (r := blk bz _ _) pkQ).pk (r := sls r _ _ _ _ _) pkQ)) (by decide) ?_); clear hS; intro aa ww vv hS hp
 clear hR
 obtain ⟨hvv, hR⟩ := hp
 by_cases hn : ∀ x ∈ xs, x ≠ z
 ·
  have hall := hn
  obtain rfl : vv = .int .i64 (-1) := by
   rcases hvv with ⟨_, e⟩ | ⟨k, hk, hkz, _, _⟩
   ·
    exact e
   ·
    exact absurd hkz (hn _ (List.getElem_mem hk))
  revert aa
  refine qN hR ?_
  intro aa hS
  refine wpList_nil ?_
  refine hK1035 _ _ ?_
  refine wp_seq_k ?_; intro K1036 hK1036
  refine wp_seq_k ?_; intro K1037 hK1037
  refine wp_region_lit ?_
  revert aa
  refine qM hR ?_
  refine qA hR rfl (fun _ hS => Yld.eql hS rfl rfl) ?_
  refine qB (t := 12) true rfl (by exact decide_eq_true rfl) ?_
  intro aa hS
  refine wpList_nil ?_
  refine hK1037 _ _ ?_
  refine condT hS rfl ?_
  refine wp_seq_k ?_; intro K1038 hK1038
  refine wp_region_lit ?_
  revert aa
  refine qM hR ?_
  refine qN hR ?_
  intro aa hS
  refine wpList_nil ?_
  refine hK1038 _ _ ?_
  refine wp_ret ?_
  repeat first | with_reducible refine thenR ?_ | with_reducible refine blockR ?_ | with_reducible refine scopeR ?_
  refine ret1 (fn := Tryz.f15) (e := .ret) (.inl rfl) Tryz.results15 hS hR ⟨_, (.tmp rfl), ?_⟩
  rw [butZ_self hall]
  exact ⟨rfl, (hR.sub exQ)⟩
 ·
  obtain ⟨k, hk, hkz, hkn, rfl⟩ : ∃ (k : Nat) (hk : k < xs.length), xs[k] = z ∧ (∀ x ∈ xs.take k, x ≠ z) ∧ vv = .int .i64 (k : Int) := by
   rcases hvv with ⟨h, _⟩ | h
   ·
    exact absurd h hn
   ·
    exact h
  revert aa
  refine qN hR ?_
  intro aa hS
  refine wpList_nil ?_
  refine hK1035 _ _ ?_
  refine wp_seq_k ?_; intro K1039 hK1039
  refine wp_seq_k ?_; intro K1040 hK1040
  refine wp_region_lit ?_
  revert aa
  refine qM hR ?_
  refine qA hR rfl (fun _ hS => Yld.eql hS rfl rfl) ?_
  refine qB (t := 12) false rfl (by exact decide_eq_false (by omega)) ?_
  intro aa hS
  refine wpList_nil ?_
  refine hK1040 _ _ ?_
  refine condF hS rfl ?_
  refine wp_skip ?_
  refine hK1039 _ _ ?_
  refine wp_seq_k ?_; intro K1041 hK1041
  refine wp_seq_k ?_; intro K1042 hK1042
  refine wp_region_lit ?_
  revert aa
  refine qM hR ?_
  intro aa hS
  refine sA hS hR adQ (by decide) ?_; clear hS; intro aa hS
  revert aa
  refine qN hR ?_
  intro aa hS
  refine wpList_nil ?_
  refine hK1042 _ _ ?_
  refine wp_block ?_
  replace hR := hR.pk (r := sls r xs.length c 3 1 (xs.flatMap e1)) pkQ
  refine loopI (X := Nat × Nat × List Int) [(0, _), (1, _), (4, _)] (fun x => [(5, .int .i64 (x.1 : Int)), (6, .int .i64 (x.2.1 : Int))]) (fun x => [sls r xs.length c 3 1 (x.2.2.flatMap e1)]) _ (fun x => DelI xs z x.1 x.2.1 x.2.2) (fun x => xs.length - x.2.1) (k, k + 1, xs) (DelI.start hk hkz hkn) (hS.le (Le.cons rfl (Le.cons rfl (Le.nilapp (Le.cons rfl (Le.cons rfl (Le.cons rfl (Le.nil _)))))))) hR ?_
  clear hS hR; rintro ⟨i, j, ys⟩ aa ww hI hS hR; dsimp only [List.cons_append, List.nil_append] at hI hS hR
  have hyl := hI.len
  have hij := hI.lt
  have hjn := hI.le
  refine wp_seq_k ?_; intro K1044 hK1044
  refine wp_seq_k ?_; intro K1045 hK1045
  refine wp_region_lit ?_
  revert aa
  refine qM hR ?_
  refine qM hR ?_
  refine qA hR rfl (fun _ hS => Yld.len hS rfl Tryz.underlying36) ?_
  refine qA hR rfl (fun _ hS => Yld.lss hS rfl rfl) ?_
  intro aa hS
  refine wpList_nil ?_
  refine hK1045 _ _ ?_
  refine hS.splitB (t := 19) rfl ?_ ?_ <;> clear hS
  ·
   intro hg hS
   have hjl : j < xs.length := by omega
   obtain ⟨x0, hx0⟩ : ∃ y : Int, ys[j]'(by omega) = y := ⟨_, rfl⟩
   have hxj : xs[j] = x0 := by rw [← hI.at hjl, hx0]
   refine condT hS rfl ?_
   refine wp_skip ?_
   refine hK1044 _ _ ?_
   refine wp_seq_k ?_; intro K1046 hK1046
   refine wp_block ?_
   refine wp_seq_k ?_; intro K1047 hK1047
   refine wp_region_lit ?_
   revert aa
   refine qM hR ?_
   refine qM hR ?_
   refine qA hR rfl (fun _ hS => ilQ 1 (j) Tryz.underlying36 info3) ?_
   refine qA hR rfl (fun _ hS => Yld.load1 hS rfl Tryz.underlying3 rfl (Rd.rec0 (k := j) (xs := ys) (v := .int .i64 x0) pkQ (by intro _; rfl) (by omega) (by rw [hx0]; rfl))) ?_
   refine qN hR ?_
   intro aa hS
   refine wpList_nil ?_
   refine hK1047 _ _ ?_
   refine wp_seq_k ?_; intro K1048 hK1048
   refine wp_region_lit ?_
   revert aa
   refine qM hR ?_
   refine qM hR ?_
   intro aa hS
   refine sB (BcallV (first := []) (caps := [.pointer (some ⟨bz, 0, none⟩)]) hS rfl rfl Tryz.call17 (aod_is (x := x0) (z := z) (bz := bz) (hR.pk (r := blk bz _ _) pkQ)) (by decide) ?_); clear hS; intro aa ww vv hS hp
   clear hR
   obtain ⟨rfl, hR⟩ := hp
   refine sA hS hR (Yld.not hS rfl) (by decide) ?_; clear hS; intro aa hS
   refine wpList_nil ?_
   refine hK1048 _ _ ?_
   refine hS.splitB (t := 29) rfl ?_ ?_ <;> clear hS
   ·
    intro hg hS
    have hnx := hI.keep hjl (by rw [hxj]; exact hg)
    rw [hxj] at hnx
    refine condT hS rfl ?_
    refine wp_seq_k ?_; intro K1049 hK1049
    refine wp_region_lit ?_
    revert aa
    refine qM hR ?_
    refine qM hR ?_
    refine qM hR ?_
    refine qA hR rfl (fun _ hS => ilQ 1 (i) Tryz.underlying36 info3) ?_
    intro aa hS
    refine sB (BstoreR0 (x0) hS hR rfl rfl (by rfl) info3 (by rfl) pkQ (by rfl) (by intro _; rfl) (by omega) (by first | exact Nat.le_of_ble_eq_true rfl | (simp only [List.length_singleton]; omega)) (Nat.le_of_ble_eq_true rfl) (by rfl) ?_); clear hR; intro ww hR
    refine wpList_nil ?_
    refine hK1049 _ _ ?_
    refine wp_region_lit ?_
    revert aa
    refine qM hR ?_
    intro aa hS
    refine sA hS hR adQ (by decide) ?_; clear hS; intro aa hS
    revert aa
    refine qN hR ?_
    intro aa hS
    refine wpList_nil ?_
    refine hK1046 _ _ ?_
    refine wp_region_lit ?_
    revert aa
    refine qM hR ?_
    intro aa hS
    refine sA hS hR adQ (by decide) ?_; clear hS; intro aa hS
    revert aa
    refine qN hR ?_
    intro aa hS
    refine wpList_nil ?_
    refine ⟨(i + 1, j + 1, _), ?_, ?_, hS.le (Le.cons rfl (Le.cons rfl (Le.nilapp (Le.cons rfl (Le.cons rfl (Le.cons rfl (Le.nil _))))))), hR.sub (Ex.take pkQ (Ex.nilapp exQ))⟩
    ·
     exact hnx
    ·
     dsimp only; omega
   ·
    intro hg hS
    have hnx := hI.skip hjl (by rw [hxj]; exact hg)
    refine condF hS rfl ?_
    refine wp_skip ?_
    refine hK1046 _ _ ?_
    refine wp_region_lit ?_
    revert aa
    refine qM hR ?_
    intro aa hS
    refine sA hS hR adQ (by decide) ?_; clear hS; intro aa hS
    revert aa
    refine qN hR ?_
    intro aa hS
    refine wpList_nil ?_
    refine ⟨(i, j + 1, ys), ?_, ?_, hS.le (Le.cons rfl (Le.cons rfl (Le.nilapp (Le.cons rfl (Le.cons rfl (Le.cons rfl (Le.nil _))))))), hR.sub (Ex.take pkQ (Ex.nilapp exQ))⟩
    ·
     exact hnx
    ·
     dsimp only; omega
  ·
   intro hg hS
   obtain ⟨hd1, hd2, hd3⟩ := hI.done (by omega)
   refine condF hS rfl ?_
   refine wp_exit ?_
   refine hK1041 _ _ ?_
   refine wp_seq_k ?_; intro K1050 hK1050
   refine wp_region_lit ?_
   revert aa
   refine qM hR ?_
   refine qM hR ?_
   refine qA hR rfl (fun _ hS => Yld.sliceLo hS rfl rfl Tryz.underlying36 info3 (by omega) (by omega)) ?_
   intro aa hS
   simp only [Int.toNat_natCast] at hS
   refine sB (Bclear0E (r := r) (lo := i) hS hR rfl Tryz.underlying36 info3 rfl pkQ (by rfl) (by omega) (by first | rfl | omega) ?_); clear hR; intro ww hR
   refine wpList_nil ?_
   refine hK1050 _ _ ?_
   refine wp_seq_k ?_; intro K1051 hK1051
   refine wp_region_lit ?_
   revert aa
   refine qM hR ?_
   refine qM hR ?_
   refine qA hR rfl (fun _ hS => Yld.sliceHi hS rfl rfl Tryz.underlying36 info3 (by omega) (by omega)) ?_
   refine qN hR ?_
   intro aa hS
   refine wpList_nil ?_
   refine hK1051 _ _ ?_
   refine wp_ret ?_
   repeat first | with_reducible refine thenR ?_ | with_reducible refine blockR ?_ | with_reducible refine scopeR ?_
   refine ret1 (fn := Tryz.f15) (e := .ret) (.inl rfl) Tryz.results15 hS hR ⟨_, (.tmp rfl), ?_⟩
   rw [e1_take, hd1] at hR
   subst hd2
   exact ⟨rfl, (hR.sub exQ)⟩
set_option maxHeartbeats 4000000 in
theorem AdmitOrder_ok {W : World} {q : Option Addr} {n c : Nat} {n0 n1 n2 n3 n4 : Int} {k0 a0 x0 : Int} {xs : List (List Int)} (A1 : ArgS W [.u8, .u32, .i64] q n c xs) {l : List HP} {w : World} (h0 : 0 ≤ n0 ∧ n0 ≤ 255) (h1 : 0 ≤ n1 ∧ n1 ≤ 255) (h2 : 0 ≤ n2 ∧ n2 ≤ 255) (h3 : 0 ≤ n3 ∧ n3 ≤ 255) (h4 : 0 ≤ n4 ∧ n4 ≤ 255) (hk0 : 0 ≤ k0 ∧ k0 ≤ 255) (ha0 : 0 ≤ a0 ∧ a0 ≤ 4294967295) (hR : Sep (old W :: l) w) : CallR Tryz.prog 3 [.agg [.int .u8 n0, .int .u8 n1, .int .u8 n2, .int .u8 n3, .int .u8 n4].toArray, .slice q n c, .agg [.int .u8 k0, .int .u32 a0, .int .i64 x0].toArray] w (fun v w' => v = .bool true ∧ Sep (old W :: l) w') := by
 refine enter Tryz.func3 rfl Tryz.ntmps3 (Nat.le_of_ble_eq_true rfl) ?_; intro aa hS
 refine wp_seq_k ?_; intro K1052 hK1052
 refine wp_region_lit ?_
 refine sB (Bbox hS hR rfl (by rfl) (by decide) ?_); clear hS hR; intro aa ww bb3 hS hR
 refine sB (Bbox hS hR rfl (by rfl) (by decide) ?_); clear hS hR; intro aa ww bb5 hS hR
 revert aa
 refine qN hR ?_
 intro aa hS
 refine wpList_nil ?_
 refine hK1052 _ _ ?_
 refine wp_seq_k ?_; intro K1053 hK1053
 refine wp_seq_k ?_; intro K1054 hK1054
 refine wp_region_lit ?_
 refine sB (Bcall hS rfl Tryz.call7 (awake34_ok hR) (by decide) ?_); clear hS; intro aa ww vv hS hp
 clear hR
 obtain ⟨rfl, hR⟩ := hp
 refine sA hS hR (Yld.not hS rfl) (by decide) ?_; clear hS; intro aa hS
 refine wpList_nil ?_
 refine hK1054 _ _ ?_
 refine condF hS rfl ?_
 refine wp_skip ?_
 refine hK1053 _ _ ?_
 refine wp_seq_k ?_; intro K1055 hK1055
 refine wp_region_lit ?_
 refine sA hS hR (Yld.loadAgg hS rfl Tryz.underlying23 rfl info23 rdsQ5 (by rfl)) (by decide) ?_; clear hS; intro aa hS
 revert aa
 refine qM hR ?_
 intro aa hS
 refine sB (Bcall hS rfl Tryz.call8 (made_ok A1 h0 h1 h2 h3 h4 (hR.pk (r := old W) pkQ)) (by decide) ?_); clear hS; intro aa ww vv hS hp
 clear hR
 obtain ⟨b, S, lim, t, p, u, D, rfl, hSe, hle, hte, hpe, hue, hM, hR⟩ := hp
 have hM0 := hM
 obtain ⟨hDF, hsix, hun, hnw⟩ := hM
 have hnow := hDF.w.now
 have hol := hDF.w.olen
 have hRR := hDF.rr
 have hordl := Nat.le_trans hDF.w.ordLen hol
 have hS1 : 1 ≤ S := by omega
 obtain ⟨s, hse, hsS⟩ := emod_nat (n := x0) (d := (S : Int)) (m := S) rfl hS1
 revert aa
 refine qM hR ?_
 refine qX hR ?_
 refine qX hR ?_
 intro aa hS
 refine sB (Balloc hS hR info33 (by rfl) (by rfl) (by decide) ?_); clear hS hR; intro aa ww bb8 hS hR
 revert aa
 refine qN hR ?_
 intro aa hS
 refine sB (Bstore hS hR rfl rfl (by rfl) info33 (by rfl) pkQ (by rfl) (Nat.le_of_ble_eq_true rfl) ?_); clear hR; intro ww hR
 refine wpList_nil ?_
 refine hK1055 _ _ ?_
 refine wp_seq_k ?_; intro K1056 hK1056
 refine wp_seq_k ?_; intro K1057 hK1057
 refine wp_region_lit ?_
 revert aa
 refine qM hR ?_
 refine qA hR rfl (fun _ hS => Yld.eqlNil hS rfl rfl Tryz.underlying29) ?_
 refine qB (t := 27) false rfl (by rfl) ?_
 intro aa hS
 refine wpList_nil ?_
 refine hK1057 _ _ ?_
 refine condF hS rfl ?_
 refine wp_skip ?_
 refine hK1056 _ _ ?_
 refine wp_seq_k ?_; intro K1058 hK1058
 refine wp_region_lit ?_
 revert aa
 refine qM hR ?_
 intro aa hS
 refine sB (Bcall hS rfl Tryz.call9 (adUnassured_ok (hR.pk (r := deskA _ b _ _ _ _) pkQ)) (by decide) ?_); clear hS; intro aa ww vv hS hp
 clear hR
 obtain ⟨ra, ca, rfl, hR⟩ := hp
 revert aa
 refine qN hR ?_
 intro aa hS
 refine wpList_nil ?_
 refine hK1058 _ _ ?_
 refine wp_seq_k ?_; intro K1059 hK1059
 refine wp_region_lit ?_
 revert aa
 refine qA hR rfl (fun _ hS => Yld.fieldAddr hS rfl 2 Tryz.underlying27 rfl rfl info3 (by decide)) ?_
 refine qA hR rfl (fun _ hS => Yld.load1 hS rfl Tryz.underlying3 rfl rdQ) ?_
 refine qA hR rfl (fun _ hS => Yld.fieldAddr hS rfl 0 Tryz.underlying33 rfl rfl info3 (by decide)) ?_
 refine qA hR rfl (fun _ hS => Yld.load1 hS rfl Tryz.underlying3 rfl rdQ) ?_
 intro aa hS
 refine sB (Bcall hS rfl Tryz.call10 (modulo_ok (n := x0) (m := (S : Int)) (by omega) hR) (by decide) ?_); clear hS; intro aa ww vv hS hp
 clear hR
 obtain ⟨rfl, hR⟩ := hp
 rw [hse] at hS
 revert aa
 refine qN hR ?_
 intro aa hS
 refine wpList_nil ?_
 refine hK1059 _ _ ?_
 refine wp_seq_k ?_; intro K1060 hK1060
 refine wp_region_lit ?_
 revert aa
 refine qM hR ?_
 refine qM hR ?_
 intro aa hS
 refine sB (Bcall hS rfl Tryz.call11 (adAssured_ok (x := (s : Int)) hDF.w (hR.pk (r := deskA _ b _ _ _ _) pkQ)) (by decide) ?_); clear hS; intro aa ww vv hS hp
 clear hR
 obtain ⟨rfl, hR⟩ := hp
 revert aa
 refine qN hR ?_
 intro aa hS
 refine wpList_nil ?_
 refine hK1060 _ _ ?_
 refine wp_seq_k ?_; intro K1061 hK1061
 refine wp_region_lit ?_
 revert aa
 refine qM hR ?_
 refine qM hR ?_
 intro aa hS
 refine sB (Bcall hS rfl Tryz.call12 (adOf_ok (x := (s : Int)) (hR.pk (r := deskA _ b _ _ _ _) pkQ)) (by decide) ?_); clear hS; intro aa ww vv hS hp
 clear hR
 obtain ⟨rfl, hR⟩ := hp
 revert aa
 refine qM hR ?_
 refine qX hR ?_
 refine qX hR ?_
 refine qN hR ?_
 refine qN hR ?_
 intro aa hS
 refine wpList_nil ?_
 refine hK1061 _ _ ?_
 refine wp_seq_k ?_; intro K1062 hK1062
 refine wp_region_lit ?_
 revert aa
 refine qM hR ?_
 refine qA hR rfl (fun _ hS => Yld.fieldAddr hS rfl 0 Tryz.underlying33 rfl rfl info3 (by decide)) ?_
 refine qA hR rfl (fun _ hS => Yld.load1 hS rfl Tryz.underlying3 rfl rdQ) ?_
 intro aa hS
 refine sA hS hR (Yld.loadAgg hS rfl Tryz.underlying27 rfl info27 rdsQ3 (by rfl)) (by decide) ?_; clear hS; intro aa hS
 refine sB (Bcall hS rfl Tryz.call13 (do_ok (k := k0) (a := a0) (x := x0) hM0 (by omega) hS1 (by omega) hk0 ha0 (hR.pk (r := deskA _ b _ _ _ _) pkQ)) (by decide) ?_); clear hS; intro aa ww vv hS hp
 clear hR
 obtain ⟨rfl, hR⟩ := hp
 obtain ⟨rr, hrr⟩ : ∃ y, doD S lim t p u D k0 a0 x0 = y := ⟨_, rfl⟩
 have hM2 := hM0.do (k := k0) (a := a0) (x := x0) ha0.1 (by omega)
 have hO := do_ord (k := k0) (a := a0) hM0 (by omega) ha0.1 hse hS1
 rw [hrr] at hS hR hM2 hO
 obtain ⟨⟨r1, r2, r3, r4⟩, tr, E⟩ := rr
 unfold doV at hS
 dsimp only at hS hR hM2
 have hE2 := hM2.f.w.olen
 have hEl := Nat.le_trans hM2.f.w.ordLen hE2
 revert aa
 refine qM hR ?_
 refine qX hR ?_
 refine qX hR ?_
 intro aa hS
 refine hS.splitB (t := 51) rfl ?_ ?_ <;> clear hS
 ·
  intro hg hS
  have htr := hg
  refine sB (Balloc hS hR info43 (by rfl) (by rfl) (by decide) ?_); clear hS hR; intro aa ww bb14 hS hR
  refine sB (Bstore hS hR rfl rfl (by rfl) info43 (by rfl) pkQ (by rfl) (Nat.le_of_ble_eq_true rfl) ?_); clear hR; intro ww hR
  revert aa
  refine qN hR ?_
  intro aa hS
  refine wpList_nil ?_
  refine hK1062 _ _ ?_
  refine wp_seq_k ?_; intro K1063 hK1063
  refine wp_region_lit ?_
  revert aa
  refine qM hR ?_
  intro aa hS
  refine sB (Balloc hS hR info3 (by rfl) (by rfl) (by decide) ?_); clear hS hR; intro aa ww bb16 hS hR
  refine sB (Bstore hS hR rfl rfl (by rfl) info3 (by rfl) pkQ (by rfl) (Nat.le_of_ble_eq_true rfl) ?_); clear hR; intro ww hR
  refine wpList_nil ?_
  refine hK1063 _ _ ?_
  refine wp_seq_k ?_; intro K1064 hK1064
  refine wp_seq_k ?_; intro K1065 hK1065
  refine wp_region_lit ?_
  revert aa
  refine qM hR ?_
  intro aa hS
  refine wpList_nil ?_
  refine hK1065 _ _ ?_
  refine condT hS rfl ?_
  refine wp_seq_k ?_; intro K1066 hK1066
  refine wp_seq_k ?_; intro K1067 hK1067
  refine wp_region_lit ?_
  revert aa
  refine qA hR rfl (fun _ hS => Yld.fieldAddr hS rfl 0 Tryz.underlying43 rfl rfl info5 (by decide)) ?_
  refine qA hR rfl (fun _ hS => Yld.load1 hS rfl Tryz.underlying5 rfl rdQ) ?_
  refine qA hR rfl (fun _ hS => Yld.neq hS rfl rfl) ?_
  intro aa hS
  refine wpList_nil ?_
  refine hK1067 _ _ ?_
  refine hS.splitB (t := 56) rfl ?_ ?_ <;> clear hS
  ·
   intro hg hS
   refine condT hS rfl ?_
   refine wp_seq_k ?_; intro K1068 hK1068
   refine wp_region_lit ?_
   revert aa
   refine qM hR ?_
   intro aa hS
   refine sB (Bcall hS rfl Tryz.call9 (adUnassured_ok (hR.pk (r := deskA _ b _ _ _ _) pkQ)) (by decide) ?_); clear hS; intro aa ww vv hS hp
   clear hR
   obtain ⟨rb, cb, rfl, hR⟩ := hp
   rw [show E.ord = D.ord from hO.ref htr hg] at hS hR
   revert aa
   refine qM hR ?_
   intro aa hS
   refine sB (Bcall hS rfl Tryz.call14 (eqI_ok (q1 := rb) (q2 := ra) (by rw [cst_len]; omega) (by rw [cst_len]; omega) ((hR.pk (r := sls ra _ _ _ _ _) pkQ).pk (r := sls rb _ _ _ _ _) pkQ)) (by decide) ?_); clear hS; intro aa ww vv hS hp
   clear hR
   obtain ⟨rfl, hR⟩ := hp
   rw [decide_eq_true rfl] at hS
   revert aa
   refine qN hR ?_
   intro aa hS
   refine wpList_nil ?_
   refine hK1068 _ _ ?_
   refine wp_ret ?_
   repeat first | with_reducible refine thenR ?_ | with_reducible refine blockR ?_ | with_reducible refine scopeR ?_
   refine ret1 (fn := Tryz.f3) (e := .ret) (.inl rfl) Tryz.results3 hS hR ⟨_, (.tmp rfl), ?_⟩
   exact ⟨rfl, (hR.sub exQ)⟩
  ·
   intro hg hS
   obtain ⟨o, ho1, ho2⟩ := hO.any htr (by first | exact hg | exact Decidable.not_not.1 hg)
   dsimp only at ho1 ho2
   subst ho1
   refine condF hS rfl ?_
   refine wp_skip ?_
   refine hK1066 _ _ ?_
   refine wp_region_lit ?_
   revert aa
   refine qA hR rfl (fun _ hS => Yld.fieldAddr hS rfl 1 Tryz.underlying43 rfl rfl info3 (by decide)) ?_
   refine qA hR rfl (fun _ hS => Yld.load1 hS rfl Tryz.underlying3 rfl rdQ) ?_
   intro aa hS
   refine sB (Bstore hS hR rfl rfl (by rfl) info3 (by rfl) pkQ (by rfl) (Nat.le_of_ble_eq_true rfl) ?_); clear hR; intro ww hR
   refine wpList_nil ?_
   refine hK1064 _ _ ?_
   refine wp_seq_k ?_; intro K1069 hK1069
   refine wp_region_lit ?_
   revert aa
   refine qM hR ?_
   intro aa hS
   refine sB (Bcall hS rfl Tryz.call16 (clone_ok (xs := cst D.ord) (by rw [cst_len]; omega) (hR.pk (r := sls ra _ _ _ _ _) pkQ)) (by decide) ?_); clear hS; intro aa ww vv hS hp
   clear hR
   obtain ⟨rk, ck, rfl, hR⟩ := hp
   dsimp only [lay, List.set] at hR
   refine sA hS hR (Yld.makeFunc hS rfl rfl) (by decide) ?_; clear hS; intro aa hS
   refine sB (Bcall hS rfl Tryz.call15 (aod_ok (xs := cst D.ord) (z := (o : Int)) (r := rk) (c := ck) (bz := bb16) (by rw [cst_len]; omega) ((hR.pk (r := blk bb16 _ _) pkQ).pk (r := sls rk _ _ _ _ _) pkQ)) (by decide) ?_); clear hS; intro aa ww vv hS hp
   clear hR
   obtain ⟨rfl, hR⟩ := hp
   rw [show butZ (cst D.ord) (o : Int) = cst (butO D.ord o) from butZ_cst] at hS hR
   have hbl : (cst (butO D.ord o)).length ≤ D.ord.length := by rw [cst_len]; exact List.length_filter_le _ _
   revert aa
   refine qN hR ?_
   intro aa hS
   refine wpList_nil ?_
   refine hK1069 _ _ ?_
   refine wp_seq_k ?_; intro K1070 hK1070
   refine wp_seq_k ?_; intro K1071 hK1071
   refine wp_region_lit ?_
   revert aa
   refine qM hR ?_
   refine qM hR ?_
   refine qZ ?_
   refine qZ ?_
   refine qU ?_
   refine qU ?_
   refine qZ ?_
   refine qZ ?_
   refine qU ?_
   refine qU ?_
   refine qU ?_
   refine qU ?_
   refine qU ?_
   refine qU ?_
   refine qU ?_
   refine qU ?_
   refine qU ?_
   refine qU ?_
   refine qZ ?_
   refine qA hR rfl (fun _ hS => Yld.pickT hS rfl rfl) ?_
   intro aa hS
   refine wpList_nil ?_
   refine hK1071 _ _ ?_
   refine condT hS rfl ?_
   refine wp_region_lit ?_
   revert aa
   refine qM hR ?_
   refine qA hR rfl (fun _ hS => Yld.load1 hS rfl Tryz.underlying3 rfl rdQ) ?_
   intro aa hS
   refine sB (BbuildSlice hS hR rfl (bls36_1_0 _) (by decide) ?_); clear hS hR; intro aa ww bb89 hS hR
   refine sB (BappendR (sz := 1) hS hR rfl rfl Tryz.underlying36 info3 rfl rfl (by rfl) pkQ (XC.one ((o : Int)) pkQ (by rfl) rfl) (by intro _; rfl) (by show (_ + _) * 8 ≤ _; exact lenQ) lenQ (by first | rfl | (simp; done) | (simp; omega)) (by decide) ?_); clear hS hR; intro aa ww r90 c90 hS hR
   rw [cst_snoc] at hS hR
   revert aa
   refine qN hR ?_
   intro aa hS
   refine wpList_nil ?_
   refine hK1070 _ _ ?_
   refine wp_seq_k ?_; intro K1072 hK1072
   refine wp_region_lit ?_
   revert aa
   refine qM hR ?_
   intro aa hS
   refine sB (Bcall hS rfl Tryz.call9 (adUnassured_ok (hR.pk (r := deskA _ b _ _ _ _) pkQ)) (by decide) ?_); clear hS; intro aa ww vv hS hp
   clear hR
   obtain ⟨rb, cb, rfl, hR⟩ := hp
   have hEo := ho2
   rw [hEo] at hS hR
   revert aa
   refine qM hR ?_
   intro aa hS
   refine sB (Bcall hS rfl Tryz.call14 (eqI_ok (q1 := rb) (q2 := r90) (by rw [cst_len]; simp only [List.length_append, List.length_singleton]; rw [cst_len] at hbl; omega) (by rw [cst_len]; simp only [List.length_append, List.length_singleton]; rw [cst_len] at hbl; omega) ((hR.pk (r := sls r90 _ _ _ _ _) pkQ).pk (r := sls rb _ _ _ _ _) pkQ)) (by decide) ?_); clear hS; intro aa ww vv hS hp
   clear hR
   obtain ⟨rfl, hR⟩ := hp
   rw [decide_eq_true rfl] at hS
   revert aa
   refine qN hR ?_
   intro aa hS
   refine wpList_nil ?_
   refine hK1072 _ _ ?_
   refine wp_ret ?_
   repeat first | with_reducible refine thenR ?_ | with_reducible refine blockR ?_ | with_reducible refine scopeR ?_
   refine ret1 (fn := Tryz.f3) (e := .ret) (.inl rfl) Tryz.results3 hS hR ⟨_, (.tmp rfl), ?_⟩
   exact ⟨rfl, (hR.sub exQ)⟩
 ·
  intro hg hS
  have hOR := hO.rest hDF.w hsS hg
  refine sB (Balloc hS hR info43 (by rfl) (by rfl) (by decide) ?_); clear hS hR; intro aa ww bb14 hS hR
  refine sB (Bstore hS hR rfl rfl (by rfl) info43 (by rfl) pkQ (by rfl) (Nat.le_of_ble_eq_true rfl) ?_); clear hR; intro ww hR
  revert aa
  refine qN hR ?_
  intro aa hS
  refine wpList_nil ?_
  refine hK1062 _ _ ?_
  refine wp_seq_k ?_; intro K1073 hK1073
  refine wp_region_lit ?_
  revert aa
  refine qM hR ?_
  intro aa hS
  refine sB (Balloc hS hR info3 (by rfl) (by rfl) (by decide) ?_); clear hS hR; intro aa ww bb16 hS hR
  refine sB (Bstore hS hR rfl rfl (by rfl) info3 (by rfl) pkQ (by rfl) (Nat.le_of_ble_eq_true rfl) ?_); clear hR; intro ww hR
  refine wpList_nil ?_
  refine hK1073 _ _ ?_
  refine wp_seq_k ?_; intro K1074 hK1074
  refine wp_seq_k ?_; intro K1075 hK1075
  refine wp_region_lit ?_
  revert aa
  refine qM hR ?_
  intro aa hS
  refine wpList_nil ?_
  refine hK1075 _ _ ?_
  refine condF hS rfl ?_
  refine wp_skip ?_
  refine hK1074 _ _ ?_
  refine wp_seq_k ?_; intro K1076 hK1076
  refine wp_region_lit ?_
  revert aa
  refine qM hR ?_
  intro aa hS
  refine sB (Bcall hS rfl Tryz.call16 (clone_ok (xs := cst D.ord) (by rw [cst_len]; omega) (hR.pk (r := sls ra _ _ _ _ _) pkQ)) (by decide) ?_); clear hS; intro aa ww vv hS hp
  clear hR
  obtain ⟨rk, ck, rfl, hR⟩ := hp
  dsimp only [lay, List.set] at hR
  refine sA hS hR (Yld.makeFunc hS rfl rfl) (by decide) ?_; clear hS; intro aa hS
  refine sB (Bcall hS rfl Tryz.call15 (aod_ok (xs := cst D.ord) (z := (s : Int)) (r := rk) (c := ck) (bz := bb16) (by rw [cst_len]; omega) ((hR.pk (r := blk bb16 _ _) pkQ).pk (r := sls rk _ _ _ _ _) pkQ)) (by decide) ?_); clear hS; intro aa ww vv hS hp
  clear hR
  obtain ⟨rfl, hR⟩ := hp
  rw [show butZ (cst D.ord) (s : Int) = cst (butO D.ord s) from butZ_cst] at hS hR
  have hbl : (cst (butO D.ord s)).length ≤ D.ord.length := by rw [cst_len]; exact List.length_filter_le _ _
  revert aa
  refine qN hR ?_
  intro aa hS
  refine wpList_nil ?_
  refine hK1076 _ _ ?_
  refine wp_seq_k ?_; intro K1077 hK1077
  refine wp_seq_k ?_; intro K1078 hK1078
  refine wp_region_lit ?_
  revert aa
  refine qM hR ?_
  refine qM hR ?_
  refine qMg hR ?_
  refine qMg hR ?_
  intro aa hS
  refine hS.splitB (t := 70) rfl ?_ ?_ <;> clear hS
  ·
   intro hg hS
   have hth := hg
   revert aa
   refine qMg hR ?_
   refine qAg hR rfl rfl rfl (fun _ hS => Yld.not hS rfl) ?_
   refine qAg hR rfl rfl rfl (fun _ hS => Yld.pickT hS rfl rfl) ?_
   refine qMg hR ?_
   intro aa hS
   refine hS.splitB (t := 74) rfl ?_ ?_ <;> clear hS
   ·
    intro hg hS
    have has : asD S D (s : Int) = false := by simpa using hg
    revert aa
    refine qAg hR rfl rfl rfl (fun _ hS => Yld.fieldAddr hS rfl 0 Tryz.underlying27 rfl rfl info5 (by decide)) ?_
    refine qAg hR rfl rfl rfl (fun _ hS => Yld.load1 hS rfl Tryz.underlying5 rfl rdQ) ?_
    refine qAg hR rfl rfl rfl (fun _ hS => by first | exact Yld.rem64 hS rfl rfl (by omega) | exact Yld.rem hS rfl rfl (by omega)) ?_
    refine qAg hR rfl rfl rfl (fun _ hS => Yld.eql hS rfl rfl) ?_
    refine qMg hR ?_
    intro aa hS
    refine hS.splitB (t := 79) rfl ?_ ?_ <;> clear hS
    ·
     intro hg hS
     revert aa
     refine qZ ?_
     refine qZ ?_
     refine qZ ?_
     refine qZ ?_
     refine qAg hR rfl rfl rfl (fun _ hS => Yld.pickT hS rfl rfl) ?_
     refine qAg hR rfl rfl rfl (fun _ hS => Yld.pickT hS rfl rfl) ?_
     refine qA hR rfl (fun _ hS => Yld.pickF hS rfl rfl) ?_
     intro aa hS
     refine wpList_nil ?_
     refine hK1078 _ _ ?_
     refine condT hS rfl ?_
     refine wp_region_lit ?_
     revert aa
     refine qM hR ?_
     refine qA hR rfl (fun _ hS => Yld.load1 hS rfl Tryz.underlying3 rfl rdQ) ?_
     intro aa hS
     refine sB (BbuildSlice hS hR rfl (bls36_1_0 _) (by decide) ?_); clear hS hR; intro aa ww bb89 hS hR
     refine sB (BappendR (sz := 1) hS hR rfl rfl Tryz.underlying36 info3 rfl rfl (by rfl) pkQ (XC.one ((s : Int)) pkQ (by rfl) rfl) (by intro _; rfl) (by show (_ + _) * 8 ≤ _; exact lenQ) lenQ (by first | rfl | (simp; done) | (simp; omega)) (by decide) ?_); clear hS hR; intro aa ww r90 c90 hS hR
     rw [cst_snoc] at hS hR
     revert aa
     refine qN hR ?_
     intro aa hS
     refine wpList_nil ?_
     refine hK1077 _ _ ?_
     refine wp_seq_k ?_; intro K1079 hK1079
     refine wp_region_lit ?_
     revert aa
     refine qM hR ?_
     intro aa hS
     refine sB (Bcall hS rfl Tryz.call9 (adUnassured_ok (hR.pk (r := deskA _ b _ _ _ _) pkQ)) (by decide) ?_); clear hS; intro aa ww vv hS hp
     clear hR
     obtain ⟨rb, cb, rfl, hR⟩ := hp
     have hEo := hOR.trans (if_pos ⟨hth, has, .inl (by omega)⟩)
     rw [hEo] at hS hR
     revert aa
     refine qM hR ?_
     intro aa hS
     refine sB (Bcall hS rfl Tryz.call14 (eqI_ok (q1 := rb) (q2 := r90) (by rw [cst_len]; simp only [List.length_append, List.length_singleton]; rw [cst_len] at hbl; omega) (by rw [cst_len]; simp only [List.length_append, List.length_singleton]; rw [cst_len] at hbl; omega) ((hR.pk (r := sls r90 _ _ _ _ _) pkQ).pk (r := sls rb _ _ _ _ _) pkQ)) (by decide) ?_); clear hS; intro aa ww vv hS hp
     clear hR
     obtain ⟨rfl, hR⟩ := hp
     rw [decide_eq_true rfl] at hS
     revert aa
     refine qN hR ?_
     intro aa hS
     refine wpList_nil ?_
     refine hK1079 _ _ ?_
     refine wp_ret ?_
     repeat first | with_reducible refine thenR ?_ | with_reducible refine blockR ?_ | with_reducible refine scopeR ?_
     refine ret1 (fn := Tryz.f3) (e := .ret) (.inl rfl) Tryz.results3 hS hR ⟨_, (.tmp rfl), ?_⟩
     exact ⟨rfl, (hR.sub exQ)⟩
    ·
     intro hg hS
     revert aa
     refine qAg hR rfl rfl rfl (fun _ hS => Yld.fieldAddr hS rfl 0 Tryz.underlying27 rfl rfl info5 (by decide)) ?_
     refine qAg hR rfl rfl rfl (fun _ hS => Yld.load1 hS rfl Tryz.underlying5 rfl rdQ) ?_
     refine qAg hR rfl rfl rfl (fun _ hS => by first | exact Yld.rem64 hS rfl rfl (by omega) | exact Yld.rem hS rfl rfl (by omega)) ?_
     refine qAg hR rfl rfl rfl (fun _ hS => Yld.eql hS rfl rfl) ?_
     refine qAg hR rfl rfl rfl (fun _ hS => Yld.pickF hS rfl rfl) ?_
     refine qAg hR rfl rfl rfl (fun _ hS => Yld.pickT hS rfl rfl) ?_
     refine qA hR rfl (fun _ hS => Yld.pickF hS rfl rfl) ?_
     intro aa hS
     refine wpList_nil ?_
     refine hK1078 _ _ ?_
     refine hS.splitB (t := 86) rfl ?_ ?_ <;> clear hS
     ·
      intro hg hS
      refine condT hS rfl ?_
      refine wp_region_lit ?_
      revert aa
      refine qM hR ?_
      refine qA hR rfl (fun _ hS => Yld.load1 hS rfl Tryz.underlying3 rfl rdQ) ?_
      intro aa hS
      refine sB (BbuildSlice hS hR rfl (bls36_1_0 _) (by decide) ?_); clear hS hR; intro aa ww bb89 hS hR
      refine sB (BappendR (sz := 1) hS hR rfl rfl Tryz.underlying36 info3 rfl rfl (by rfl) pkQ (XC.one ((s : Int)) pkQ (by rfl) rfl) (by intro _; rfl) (by show (_ + _) * 8 ≤ _; exact lenQ) lenQ (by first | rfl | (simp; done) | (simp; omega)) (by decide) ?_); clear hS hR; intro aa ww r90 c90 hS hR
      rw [cst_snoc] at hS hR
      revert aa
      refine qN hR ?_
      intro aa hS
      refine wpList_nil ?_
      refine hK1077 _ _ ?_
      refine wp_seq_k ?_; intro K1080 hK1080
      refine wp_region_lit ?_
      revert aa
      refine qM hR ?_
      intro aa hS
      refine sB (Bcall hS rfl Tryz.call9 (adUnassured_ok (hR.pk (r := deskA _ b _ _ _ _) pkQ)) (by decide) ?_); clear hS; intro aa ww vv hS hp
      clear hR
      obtain ⟨rb, cb, rfl, hR⟩ := hp
      have hEo := hOR.trans (if_pos ⟨hth, has, .inr (by omega)⟩)
      rw [hEo] at hS hR
      revert aa
      refine qM hR ?_
      intro aa hS
      refine sB (Bcall hS rfl Tryz.call14 (eqI_ok (q1 := rb) (q2 := r90) (by rw [cst_len]; simp only [List.length_append, List.length_singleton]; rw [cst_len] at hbl; omega) (by rw [cst_len]; simp only [List.length_append, List.length_singleton]; rw [cst_len] at hbl; omega) ((hR.pk (r := sls r90 _ _ _ _ _) pkQ).pk (r := sls rb _ _ _ _ _) pkQ)) (by decide) ?_); clear hS; intro aa ww vv hS hp
      clear hR
      obtain ⟨rfl, hR⟩ := hp
      rw [decide_eq_true rfl] at hS
      revert aa
      refine qN hR ?_
      intro aa hS
      refine wpList_nil ?_
      refine hK1080 _ _ ?_
      refine wp_ret ?_
      repeat first | with_reducible refine thenR ?_ | with_reducible refine blockR ?_ | with_reducible refine scopeR ?_
      refine ret1 (fn := Tryz.f3) (e := .ret) (.inl rfl) Tryz.results3 hS hR ⟨_, (.tmp rfl), ?_⟩
      exact ⟨rfl, (hR.sub exQ)⟩
     ·
      intro hg hS
      refine condF hS rfl ?_
      refine wp_skip ?_
      refine hK1077 _ _ ?_
      refine wp_seq_k ?_; intro K1081 hK1081
      refine wp_region_lit ?_
      revert aa
      refine qM hR ?_
      intro aa hS
      refine sB (Bcall hS rfl Tryz.call9 (adUnassured_ok (hR.pk (r := deskA _ b _ _ _ _) pkQ)) (by decide) ?_); clear hS; intro aa ww vv hS hp
      clear hR
      obtain ⟨rb, cb, rfl, hR⟩ := hp
      have hEo := hOR.trans (if_neg (fun c => by have := c.2.2; omega))
      rw [hEo] at hS hR
      revert aa
      refine qM hR ?_
      intro aa hS
      refine sB (Bcall hS rfl Tryz.call14 (eqI_ok (q1 := rb) (q2 := rk) (by omega) (by omega) ((hR.pk (r := sls rk _ _ _ _ _) pkQ).pk (r := sls rb _ _ _ _ _) pkQ)) (by decide) ?_); clear hS; intro aa ww vv hS hp
      clear hR
      obtain ⟨rfl, hR⟩ := hp
      rw [decide_eq_true rfl] at hS
      revert aa
      refine qN hR ?_
      intro aa hS
      refine wpList_nil ?_
      refine hK1081 _ _ ?_
      refine wp_ret ?_
      repeat first | with_reducible refine thenR ?_ | with_reducible refine blockR ?_ | with_reducible refine scopeR ?_
      refine ret1 (fn := Tryz.f3) (e := .ret) (.inl rfl) Tryz.results3 hS hR ⟨_, (.tmp rfl), ?_⟩
      exact ⟨rfl, (hR.sub exQ)⟩
   ·
    intro hg hS
    have has : asD S D (s : Int) = true := by simpa using hg
    revert aa
    refine qZ ?_
    refine qZ ?_
    refine qZ ?_
    refine qZ ?_
    refine qZ ?_
    refine qU ?_
    refine qU ?_
    refine qU ?_
    refine qU ?_
    refine qZ ?_
    refine qAg hR rfl rfl rfl (fun _ hS => Yld.pickF hS rfl rfl) ?_
    refine qA hR rfl (fun _ hS => Yld.pickF hS rfl rfl) ?_
    intro aa hS
    refine wpList_nil ?_
    refine hK1078 _ _ ?_
    refine condF hS rfl ?_
    refine wp_skip ?_
    refine hK1077 _ _ ?_
    refine wp_seq_k ?_; intro K1082 hK1082
    refine wp_region_lit ?_
    revert aa
    refine qM hR ?_
    intro aa hS
    refine sB (Bcall hS rfl Tryz.call9 (adUnassured_ok (hR.pk (r := deskA _ b _ _ _ _) pkQ)) (by decide) ?_); clear hS; intro aa ww vv hS hp
    clear hR
    obtain ⟨rb, cb, rfl, hR⟩ := hp
    have hEo := hOR.trans (if_neg (fun c => by have := c.2.1; rw [has] at this; cases this))
    rw [hEo] at hS hR
    revert aa
    refine qM hR ?_
    intro aa hS
    refine sB (Bcall hS rfl Tryz.call14 (eqI_ok (q1 := rb) (q2 := rk) (by omega) (by omega) ((hR.pk (r := sls rk _ _ _ _ _) pkQ).pk (r := sls rb _ _ _ _ _) pkQ)) (by decide) ?_); clear hS; intro aa ww vv hS hp
    clear hR
    obtain ⟨rfl, hR⟩ := hp
    rw [decide_eq_true rfl] at hS
    revert aa
    refine qN hR ?_
    intro aa hS
    refine wpList_nil ?_
    refine hK1082 _ _ ?_
    refine wp_ret ?_
    repeat first | with_reducible refine thenR ?_ | with_reducible refine blockR ?_ | with_reducible refine scopeR ?_
    refine ret1 (fn := Tryz.f3) (e := .ret) (.inl rfl) Tryz.results3 hS hR ⟨_, (.tmp rfl), ?_⟩
    exact ⟨rfl, (hR.sub exQ)⟩
  ·
   intro hg hS
   have hth : (ofO D.T.O (s : Int)).isSome = false := by simpa using hg
   revert aa
   refine qZ ?_
   refine qZ ?_
   refine qAg hR rfl rfl rfl (fun _ hS => Yld.pickF hS rfl rfl) ?_
   refine qMg hR ?_
   refine qZ ?_
   refine qZ ?_
   refine qZ ?_
   refine qZ ?_
   refine qZ ?_
   refine qU ?_
   refine qU ?_
   refine qU ?_
   refine qU ?_
   refine qZ ?_
   refine qAg hR rfl rfl rfl (fun _ hS => Yld.pickF hS rfl rfl) ?_
   refine qA hR rfl (fun _ hS => Yld.pickF hS rfl rfl) ?_
   intro aa hS
   refine wpList_nil ?_
   refine hK1078 _ _ ?_
   refine condF hS rfl ?_
   refine wp_skip ?_
   refine hK1077 _ _ ?_
   refine wp_seq_k ?_; intro K1083 hK1083
   refine wp_region_lit ?_
   revert aa
   refine qM hR ?_
   intro aa hS
   refine sB (Bcall hS rfl Tryz.call9 (adUnassured_ok (hR.pk (r := deskA _ b _ _ _ _) pkQ)) (by decide) ?_); clear hS; intro aa ww vv hS hp
   clear hR
   obtain ⟨rb, cb, rfl, hR⟩ := hp
   have hEo := hOR.trans (if_neg (fun c => by have := c.1; rw [hth] at this; cases this))
   rw [hEo] at hS hR
   revert aa
   refine qM hR ?_
   intro aa hS
   refine sB (Bcall hS rfl Tryz.call14 (eqI_ok (q1 := rb) (q2 := rk) (by omega) (by omega) ((hR.pk (r := sls rk _ _ _ _ _) pkQ).pk (r := sls rb _ _ _ _ _) pkQ)) (by decide) ?_); clear hS; intro aa ww vv hS hp
   clear hR
   obtain ⟨rfl, hR⟩ := hp
   rw [decide_eq_true rfl] at hS
   revert aa
   refine qN hR ?_
   intro aa hS
   refine wpList_nil ?_
   refine hK1083 _ _ ?_
   refine wp_ret ?_
   repeat first | with_reducible refine thenR ?_ | with_reducible refine blockR ?_ | with_reducible refine scopeR ?_
   refine ret1 (fn := Tryz.f3) (e := .ret) (.inl rfl) Tryz.results3 hS hR ⟨_, (.tmp rfl), ?_⟩
   exact ⟨rfl, (hR.sub exQ)⟩
end Go.Proofs.YtkhdejjompbklaaGreat.Sx
