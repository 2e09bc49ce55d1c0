/-
 
-/
import Derived.Test.YthhndmlfgjcgpaaZRwA
namespace Go.Proofs.Ythhndmlfgjcgpaa.Sx
open Go
set_option maxRecDepth 20000
set_option linter.unusedVariables false
set_option linter.unusedSimpArgs false
theorem info190 : Try.prog.info? 190 = some Try.t190 := by kernel_rfl
set_option maxHeartbeats 4000000 in
theorem Digits_ok {k : Ky} {l : List HP} {w : World} (hR : Sep l w) (hk : WfK k) : CallR Try.prog 102 [vK k] w (fun v w' => v = .agg ((dl k).flatMap e1).toArray ∧ Sep l w') := by
 refine enter Try.func102 rfl Try.ntmps102 (Nat.le_of_ble_eq_true rfl) ?_; intro aa hS
 have q1 := hk.p; have q2 := hk.s; have q3 := hk.d; have q4 := hk.a; have q5 := hk.b
 refine wp_seq_k ?_; intro K895 hK895
 refine wp_region_lit ?_
 refine sB (Bbox hS hR rfl (by rfl) (by decide) ?_); clear hS hR; intro aa ww bb1 hS hR
 refine sB (Balloc hS hR info190 (by rfl) (by rfl) (by decide) ?_); clear hS hR; intro aa ww bb2 hS hR
 refine wpList_nil ?_
 refine hK895 _ _ ?_
 refine wp_seq_k ?_; intro K896 hK896
 refine wp_region_lit ?_
 refine sB (Balloc hS hR info190 (by rfl) (by rfl) (by decide) ?_); clear hS hR; intro aa ww bb3 hS hR
 replace hR := hR.pk (r := blk bb3 _ _) pkQ
 change Sep (blk bb3 ((tab 26 (fun _ => (0 : Int))).flatMap e1) 190 :: _) _ at hR
 refine wpList_nil ?_
 refine hK896 _ _ ?_
 refine wp_seq_k ?_; intro K897 hK897
 refine wp_seq_k ?_; intro K898 hK898
 refine wp_region_lit ?_
 revert aa
 refine qN hR ?_
 intro aa hS
 refine wpList_nil ?_
 refine hK898 _ _ ?_
 refine wp_block ?_
 replace hR := hR.pk (r := blk bb3 ((tab 26 (fun _ => (0 : Int))).flatMap e1) 190) pkQ
 refine loopI (X := Nat × (Nat → Int)) [(1, _), (2, _), (3, _)] (fun x => [(4, .int .i64 (x.1 : Int))]) (fun x => [blk bb3 ((tab 26 x.2).flatMap e1) 190]) _ (fun x => x.1 ≤ 8 ∧ (∀ j, j < x.1 → x.2 j = dig k j) ∧ (∀ j, j < x.1 → x.2 (8 + j) = dig k (8 + j))) (fun x => 8 - x.1) (0, fun _ => 0) ⟨Nat.zero_le _, fun j h => by omega, fun j h => by omega⟩ (hS.le (Le.cons rfl (Le.nilapp (Le.cons rfl (Le.cons rfl (Le.cons rfl (Le.nil _))))))) hR ?_
 clear hS hR; rintro ⟨i, f⟩ aa ww hI hS hR; dsimp only [List.cons_append, List.nil_append] at hI hS hR
 refine wp_seq_k ?_; intro K900 hK900
 refine wp_seq_k ?_; intro K901 hK901
 refine wp_region_lit ?_
 revert aa
 refine qM hR ?_
 refine qA hR rfl (fun _ hS => Yld.lss hS rfl rfl) ?_
 intro aa hS
 refine wpList_nil ?_
 refine hK901 _ _ ?_
 refine hS.splitB (t := 7) rfl ?_ ?_ <;> clear hS
 ·
  intro hg hS
  refine condT hS rfl ?_
  refine wp_skip ?_
  refine hK900 _ _ ?_
  refine wp_seq_k ?_; intro K902 hK902
  refine wp_block ?_
  refine wp_seq_k ?_; intro K903 hK903
  refine wp_region_lit ?_
  revert aa
  refine qM hR ?_
  refine qA hR rfl (fun _ hS => Yld.fieldAddr hS rfl 1 Try.underlying35 rfl rfl info32 (by decide)) ?_
  refine qA hR rfl (fun _ hS => Yld.load1 hS rfl Try.underlying32 rfl rdQ) ?_
  refine qM hR ?_
  refine qA hR rfl (fun _ hS => by first | exact Yld.mul64 hS rfl rfl (by omega) | exact Yld.mul hS rfl rfl) ?_
  intro aa hS
  refine sA hS hR suQ (by decide) ?_; clear hS; intro aa hS
  refine sA hS hR (Yld.to (Yld.shrL (4 * (7 - i)) ((16 ^ (7 - i) : Nat) : Int) hS rfl rfl (by omega) (by show _ ≤ 32; omega) (pow16 _)) (congrArg (Value.int .u32) (shr_dig (by omega)))) (by decide) ?_; clear hS; intro aa hS
  obtain ⟨y, hye⟩ : ∃ y : Nat, k.2.1.toNat / 16 ^ (7 - i) = y := ⟨_, rfl⟩
  have hyl : y ≤ k.2.1.toNat := hye ▸ Nat.div_le_self _ _
  have hyd : ((y % 16 : Nat) : Int) = dig k (i) := by rw [dig_s hk (by omega), ← hye]
  rw [hye] at hS
  revert aa
  refine qA hR rfl (fun _ hS => by first | exact Yld.to (Yld.convInt hS rfl rfl Try.underlying3) (congrArg (Value.int .i64) (IntWalk.i64_in _ (by omega))) | exact Yld.convInt hS rfl rfl Try.underlying3) ?_
  refine qA hR rfl (fun _ hS => by first | exact Yld.rem64 hS rfl rfl (by omega) | exact Yld.rem hS rfl rfl (by omega)) ?_
  intro aa hS
  replace hS := hS.say (t := 18) (.int .i64 (dig k (i))) rfl (by rw [← hyd, Int.natCast_emod]; rfl)
  refine sA hS hR (Yld.to (u := .pointer (some ⟨bb3, i, none⟩)) (Yld.indexArr hS rfl rfl Try.underlying190 info3 (by omega) (by omega)) (by have h1 : (Try.t3).size = 1 := rfl; rw [h1]; congr 3 <;> omega)) (by decide) ?_; clear hS; intro aa hS
  refine sB (BstoreJ hS hR rfl rfl info3 rfl pkQ (by omega) ?_); clear hR; intro ww hR
  refine wpList_nil ?_
  refine hK903 _ _ ?_
  refine wp_region_lit ?_
  revert aa
  refine qM hR ?_
  intro aa hS
  refine sA hS hR adQ (by decide) ?_; clear hS; intro aa hS
  refine sA hS hR (Yld.fieldAddr hS rfl 2 Try.underlying35 rfl rfl info32 (by decide)) (by decide) ?_; clear hS; intro aa hS
  refine sA hS hR (Yld.load1 hS rfl Try.underlying32 rfl rdQ) (by decide) ?_; clear hS; intro aa hS
  revert aa
  refine qM hR ?_
  refine qA hR rfl (fun _ hS => by first | exact Yld.mul64 hS rfl rfl (by omega) | exact Yld.mul hS rfl rfl) ?_
  intro aa hS
  refine sA hS hR suQ (by decide) ?_; clear hS; intro aa hS
  refine sA hS hR (Yld.to (Yld.shrL (4 * (7 - i)) ((16 ^ (7 - i) : Nat) : Int) hS rfl rfl (by omega) (by show _ ≤ 32; omega) (pow16 _)) (congrArg (Value.int .u32) (shr_dig (by omega)))) (by decide) ?_; clear hS; intro aa hS
  obtain ⟨y, hye⟩ : ∃ y : Nat, k.2.2.1.toNat / 16 ^ (7 - i) = y := ⟨_, rfl⟩
  have hyl : y ≤ k.2.2.1.toNat := hye ▸ Nat.div_le_self _ _
  have hyd : ((y % 16 : Nat) : Int) = dig k (8 + i) := by rw [dig_d hk (by omega) (by omega), ← hye, show 15 - (8 + i) = 7 - i from by omega]
  rw [hye] at hS
  revert aa
  refine qA hR rfl (fun _ hS => by first | exact Yld.to (Yld.convInt hS rfl rfl Try.underlying3) (congrArg (Value.int .i64) (IntWalk.i64_in _ (by omega))) | exact Yld.convInt hS rfl rfl Try.underlying3) ?_
  refine qA hR rfl (fun _ hS => by first | exact Yld.rem64 hS rfl rfl (by omega) | exact Yld.rem hS rfl rfl (by omega)) ?_
  intro aa hS
  replace hS := hS.say (t := 29) (.int .i64 (dig k (8 + i))) rfl (by rw [← hyd, Int.natCast_emod]; rfl)
  refine sA hS hR (Yld.to (u := .pointer (some ⟨bb3, 8 + i, none⟩)) (Yld.indexArr hS rfl rfl Try.underlying190 info3 (by omega) (by omega)) (by have h1 : (Try.t3).size = 1 := rfl; rw [h1]; congr 3 <;> omega)) (by decide) ?_; clear hS; intro aa hS
  refine sB (BstoreJ hS hR rfl rfl info3 rfl pkQ (by omega) ?_); clear hR; intro ww hR
  refine wpList_nil ?_
  refine hK902 _ _ ?_
  refine wp_region_lit ?_
  revert aa
  refine qM hR ?_
  intro aa hS
  refine sA hS hR adQ (by decide) ?_; clear hS; intro aa hS
  revert aa
  refine qN hR ?_
  intro aa hS
  refine wpList_nil ?_
  refine ⟨(i + 1, _), ?_, ?_, hS.le (Le.cons rfl (Le.nilapp (Le.cons rfl (Le.cons rfl (Le.cons rfl (Le.nil _)))))), hR.sub (Ex.take pkQ (Ex.nilapp exQ))⟩
  ·
   dsimp only; exact ⟨by omega, fun j hj => by
    unfold upd; rw [if_neg (by omega)]
    by_cases e : j = i
    ·
     rw [if_pos e, e]
    ·
     rw [if_neg e]; exact hI.2.1 j (by omega), fun j hj => by
    unfold upd
    by_cases e : j = i
    ·
     rw [if_pos (by omega), e]
    ·
     rw [if_neg (by omega), if_neg (by omega)]; exact hI.2.2 j (by omega)⟩
  ·
   dsimp only; omega
 ·
  intro hg hS
  obtain rfl : i = 8 := by omega
  have hI0 := hI
  refine condF hS rfl ?_
  refine wp_exit ?_
  refine hK897 _ _ ?_
  refine wp_seq_k ?_; intro K904 hK904
  refine drawn krQ hR (Ex.of_pk (r := blk bb3 _ _) pkQ) ?_; clear hR; intro ww hR hR0
  revert aa
  refine eA 0 rfl krQ (fun _ _ _ h => h) hR0 rfl (fun _ hS => Yld.fieldAddr hS rfl 0 Try.underlying35 rfl rfl info5 (by decide)) ?_
  intro aa hS
  refine dA 1 rfl krQ krQ krQ (fun _ _ _ h => h) hS hR0 (Yld.load1 hS rfl Try.underlying5 rfl rdQ) (by decide) ?_; clear hS; intro aa hS
  revert aa
  refine eA 2 rfl krQ (fun _ _ _ h => h) hR0 rfl (fun _ hS => by first | exact Yld.to (Yld.convInt hS rfl rfl Try.underlying3) (congrArg (Value.int .i64) (IntWalk.i64_in _ (by omega))) | exact Yld.convInt hS rfl rfl Try.underlying3) ?_
  refine eA 3 rfl krQ (fun _ _ _ h => h) hR0 rfl (fun _ hS => by first | exact Yld.quo64 hS rfl rfl (by omega) | exact Yld.quo hS rfl rfl (by omega)) ?_
  intro aa hS
  replace hS := hS.say (t := 34) (.int .i64 (dig k 16)) rfl (by rw [dig_p hk (by omega) (by omega)]; congr 1; first | (simp; done) | (simp; omega))
  revert aa
  refine eA 4 rfl krQ (fun _ _ _ h => h) hR0 rfl (fun _ hS => Yld.fieldAddr hS rfl 0 Try.underlying35 rfl rfl info5 (by decide)) ?_
  refine eA 5 rfl krQ (fun _ _ _ h => h) hR0 rfl (fun _ hS => Yld.load1 hS rfl Try.underlying5 rfl rdQ) ?_
  refine eA 6 rfl krQ (fun _ _ _ h => h) hR0 rfl (fun _ hS => by first | exact Yld.to (Yld.convInt hS rfl rfl Try.underlying3) (congrArg (Value.int .i64) (IntWalk.i64_in _ (by omega))) | exact Yld.convInt hS rfl rfl Try.underlying3) ?_
  refine eA 7 rfl krQ (fun _ _ _ h => h) hR0 rfl (fun _ hS => by first | exact Yld.rem64 hS rfl rfl (by omega) | exact Yld.rem hS rfl rfl (by omega)) ?_
  intro aa hS
  replace hS := hS.say (t := 38) (.int .i64 (dig k 17)) rfl (by rw [dig_p hk (by omega) (by omega)]; congr 1; first | (simp; done) | (simp; omega))
  revert aa
  refine eA 8 rfl krQ (fun _ _ _ h => h) hR0 rfl (fun _ hS => Yld.to (u := .pointer (some ⟨bb3, 16, none⟩)) (Yld.indexArr hS rfl rfl Try.underlying190 info3 (by omega) (by omega)) (by have h1 : (Try.t3).size = 1 := rfl; rw [h1]; congr 3 <;> omega)) ?_
  intro aa hS
  refine dOne (i := 9) krQ ?_
  refine dop rfl (BstoreJ hS hR rfl rfl info3 rfl pkQ (by omega) ?_); clear hR hR0; intro ww hR
  refine dnext (hR.sub exQ) ?_; intro hR0
  revert aa
  refine eA 10 rfl krQ (fun _ _ _ h => h) hR0 rfl (fun _ hS => Yld.to (u := .pointer (some ⟨bb3, 17, none⟩)) (Yld.indexArr hS rfl rfl Try.underlying190 info3 (by omega) (by omega)) (by have h1 : (Try.t3).size = 1 := rfl; rw [h1]; congr 3 <;> omega)) ?_
  intro aa hS
  refine dOne (i := 11) krQ ?_
  refine dop rfl (BstoreJ hS hR rfl rfl info3 rfl pkQ (by omega) ?_); clear hR hR0; intro ww hR
  refine dnext (hR.sub exQ) ?_; intro hR0
  refine wpAnyH_done krQ ?_ _; clear hR0
  refine hK904 _ _ ?_
  refine wp_seq_k ?_; intro K905 hK905
  refine wp_seq_k ?_; intro K906 hK906
  refine wp_region_lit ?_
  revert aa
  refine qN hR ?_
  intro aa hS
  refine wpList_nil ?_
  refine hK906 _ _ ?_
  refine wp_block ?_
  replace hR := hR.pk (r := blk bb3 ((tab 26 (upd (upd f 16 (dig k 16)) 17 (dig k 17))).flatMap e1) 190) pkQ
  refine loopI (X := Nat × (Nat → Int)) [(1, _), (2, _), (3, _)] (fun x => [(5, .int .i64 (x.1 : Int))]) (fun x => [blk bb3 ((tab 26 x.2).flatMap e1) 190]) _ (fun x => x.1 ≤ 4 ∧ (∀ j, j < 18 → x.2 j = dig k j) ∧ (∀ j, j < x.1 → x.2 (18 + j) = dig k (18 + j)) ∧ (∀ j, j < x.1 → x.2 (22 + j) = dig k (22 + j))) (fun x => 4 - x.1) (0, upd (upd f 16 (dig k 16)) 17 (dig k 17)) ⟨Nat.zero_le _, (fun j hj => by
    dsimp only; unfold upd
    by_cases e1 : j = 17
    ·
     rw [if_pos e1, e1]
    ·
     rw [if_neg e1]
     by_cases e2 : j = 16
     ·
      rw [if_pos e2, e2]
     ·
      rw [if_neg e2]
      by_cases e3 : j < 8
      ·
       exact hI0.2.1 j e3
      ·
       have := hI0.2.2 (j - 8) (by omega); rwa [show 8 + (j - 8) = j from by omega] at this), (fun j h => by omega), (fun j h => by omega)⟩ (hS.le (Le.cons rfl (Le.nilapp (Le.cons rfl (Le.cons rfl (Le.cons rfl (Le.nil _))))))) hR ?_
  clear hS hR; rintro ⟨i, f⟩ aa ww hI hS hR; dsimp only [List.cons_append, List.nil_append] at hI hS hR
  refine wp_seq_k ?_; intro K908 hK908
  refine wp_seq_k ?_; intro K909 hK909
  refine wp_region_lit ?_
  revert aa
  refine qM hR ?_
  refine qA hR rfl (fun _ hS => Yld.lss hS rfl rfl) ?_
  intro aa hS
  refine wpList_nil ?_
  refine hK909 _ _ ?_
  refine hS.splitB (t := 42) rfl ?_ ?_ <;> clear hS
  ·
   intro hg hS
   refine condT hS rfl ?_
   refine wp_skip ?_
   refine hK908 _ _ ?_
   refine wp_seq_k ?_; intro K910 hK910
   refine wp_block ?_
   refine wp_seq_k ?_; intro K911 hK911
   refine wp_region_lit ?_
   revert aa
   refine qM hR ?_
   intro aa hS
   refine sA hS hR adQ (by decide) ?_; clear hS; intro aa hS
   refine sA hS hR (Yld.fieldAddr hS rfl 3 Try.underlying35 rfl rfl info33 (by decide)) (by decide) ?_; clear hS; intro aa hS
   refine sA hS hR (Yld.load1 hS rfl Try.underlying33 rfl rdQ) (by decide) ?_; clear hS; intro aa hS
   revert aa
   refine qM hR ?_
   refine qA hR rfl (fun _ hS => by first | exact Yld.mul64 hS rfl rfl (by omega) | exact Yld.mul hS rfl rfl) ?_
   intro aa hS
   refine sA hS hR suQ (by decide) ?_; clear hS; intro aa hS
   refine sA hS hR (Yld.to (Yld.shrL (4 * (3 - i)) ((16 ^ (3 - i) : Nat) : Int) hS rfl rfl (by omega) (by show _ ≤ 16; omega) (pow16 _)) (congrArg (Value.int .u16) (shr_dig (by omega)))) (by decide) ?_; clear hS; intro aa hS
   obtain ⟨y, hye⟩ : ∃ y : Nat, k.2.2.2.1.toNat / 16 ^ (3 - i) = y := ⟨_, rfl⟩
   have hyl : y ≤ k.2.2.2.1.toNat := hye ▸ Nat.div_le_self _ _
   have hyd : ((y % 16 : Nat) : Int) = dig k (18 + i) := by rw [dig_a hk (by omega) (by omega), ← hye, show 21 - (18 + i) = 3 - i from by omega]
   rw [hye] at hS
   revert aa
   refine qA hR rfl (fun _ hS => by first | exact Yld.to (Yld.convInt hS rfl rfl Try.underlying3) (congrArg (Value.int .i64) (IntWalk.i64_in _ (by omega))) | exact Yld.convInt hS rfl rfl Try.underlying3) ?_
   refine qA hR rfl (fun _ hS => by first | exact Yld.rem64 hS rfl rfl (by omega) | exact Yld.rem hS rfl rfl (by omega)) ?_
   intro aa hS
   replace hS := hS.say (t := 54) (.int .i64 (dig k (18 + i))) rfl (by rw [← hyd, Int.natCast_emod]; rfl)
   refine sA hS hR (Yld.to (u := .pointer (some ⟨bb3, 18 + i, none⟩)) (Yld.indexArr hS rfl rfl Try.underlying190 info3 (by omega) (by omega)) (by have h1 : (Try.t3).size = 1 := rfl; rw [h1]; congr 3 <;> omega)) (by decide) ?_; clear hS; intro aa hS
   refine sB (BstoreJ hS hR rfl rfl info3 rfl pkQ (by omega) ?_); clear hR; intro ww hR
   refine wpList_nil ?_
   refine hK911 _ _ ?_
   refine wp_region_lit ?_
   revert aa
   refine qM hR ?_
   intro aa hS
   refine sA hS hR adQ (by decide) ?_; clear hS; intro aa hS
   refine sA hS hR (Yld.fieldAddr hS rfl 4 Try.underlying35 rfl rfl info33 (by decide)) (by decide) ?_; clear hS; intro aa hS
   refine sA hS hR (Yld.load1 hS rfl Try.underlying33 rfl rdQ) (by decide) ?_; clear hS; intro aa hS
   revert aa
   refine qM hR ?_
   refine qA hR rfl (fun _ hS => by first | exact Yld.mul64 hS rfl rfl (by omega) | exact Yld.mul hS rfl rfl) ?_
   intro aa hS
   refine sA hS hR suQ (by decide) ?_; clear hS; intro aa hS
   refine sA hS hR (Yld.to (Yld.shrL (4 * (3 - i)) ((16 ^ (3 - i) : Nat) : Int) hS rfl rfl (by omega) (by show _ ≤ 16; omega) (pow16 _)) (congrArg (Value.int .u16) (shr_dig (by omega)))) (by decide) ?_; clear hS; intro aa hS
   obtain ⟨y, hye⟩ : ∃ y : Nat, k.2.2.2.2.toNat / 16 ^ (3 - i) = y := ⟨_, rfl⟩
   have hyl : y ≤ k.2.2.2.2.toNat := hye ▸ Nat.div_le_self _ _
   have hyd : ((y % 16 : Nat) : Int) = dig k (22 + i) := by rw [dig_b hk (by omega) (by omega), ← hye, show 25 - (22 + i) = 3 - i from by omega]
   rw [hye] at hS
   revert aa
   refine qA hR rfl (fun _ hS => by first | exact Yld.to (Yld.convInt hS rfl rfl Try.underlying3) (congrArg (Value.int .i64) (IntWalk.i64_in _ (by omega))) | exact Yld.convInt hS rfl rfl Try.underlying3) ?_
   refine qA hR rfl (fun _ hS => by first | exact Yld.rem64 hS rfl rfl (by omega) | exact Yld.rem hS rfl rfl (by omega)) ?_
   intro aa hS
   replace hS := hS.say (t := 65) (.int .i64 (dig k (22 + i))) rfl (by rw [← hyd, Int.natCast_emod]; rfl)
   refine sA hS hR (Yld.to (u := .pointer (some ⟨bb3, 22 + i, none⟩)) (Yld.indexArr hS rfl rfl Try.underlying190 info3 (by omega) (by omega)) (by have h1 : (Try.t3).size = 1 := rfl; rw [h1]; congr 3 <;> omega)) (by decide) ?_; clear hS; intro aa hS
   refine sB (BstoreJ hS hR rfl rfl info3 rfl pkQ (by omega) ?_); clear hR; intro ww hR
   refine wpList_nil ?_
   refine hK910 _ _ ?_
   refine wp_region_lit ?_
   revert aa
   refine qM hR ?_
   intro aa hS
   refine sA hS hR adQ (by decide) ?_; clear hS; intro aa hS
   revert aa
   refine qN hR ?_
   intro aa hS
   refine wpList_nil ?_
   refine ⟨(i + 1, _), ?_, ?_, hS.le (Le.cons rfl (Le.nilapp (Le.cons rfl (Le.cons rfl (Le.cons rfl (Le.nil _)))))), hR.sub (Ex.take pkQ (Ex.nilapp exQ))⟩
   ·
    dsimp only; exact ⟨by omega, fun j hj => by
     unfold upd; rw [if_neg (by omega), if_neg (by omega)]; exact hI.2.1 j hj, fun j hj => by
     unfold upd; rw [if_neg (by omega)]
     by_cases e : j = i
     ·
      rw [if_pos (by omega), e]
     ·
      rw [if_neg (by omega)]; exact hI.2.2.1 j (by omega), fun j hj => by
     unfold upd
     by_cases e : j = i
     ·
      rw [if_pos (by omega), e]
     ·
      rw [if_neg (by omega), if_neg (by omega)]; exact hI.2.2.2 j (by omega)⟩
   ·
    dsimp only; omega
  ·
   intro hg hS
   obtain rfl : i = 4 := by omega
   have hdl : tab 26 f = dl k := dl_tab fun j hj => by
    by_cases h1 : j < 18
    ·
     exact hI.2.1 j h1
    ·
     by_cases h2 : j < 22
     ·
      have := hI.2.2.1 (j - 18) (by omega); rwa [show 18 + (j - 18) = j from by omega] at this
     ·
      have := hI.2.2.2 (j - 22) (by omega); rwa [show 22 + (j - 22) = j from by omega] at this
   rw [hdl] at hR
   refine condF hS rfl ?_
   refine wp_exit ?_
   refine hK905 _ _ ?_
   refine wp_seq_k ?_; intro K912 hK912
   refine wp_region_lit ?_
   refine sA hS hR (Yld.loadAgg (vs := (dl k).flatMap e1) hS rfl Try.underlying190 rfl info190 (Rds.blk0 pkQ) (by rw [dlE_len]; rfl)) (by decide) ?_; clear hS; intro aa hS
   refine sB (Bstore hS hR rfl rfl (by rfl) info190 (by rfl) pkQ (by rfl) (Nat.le_of_ble_eq_true rfl) ?_); clear hR; intro ww hR
   replace hR := hR.layAll (by rw [dlE_len]; rfl)
   refine wpList_nil ?_
   refine hK912 _ _ ?_
   refine wp_ret ?_
   repeat first | with_reducible refine thenR ?_ | with_reducible refine blockR ?_ | with_reducible refine scopeR ?_
   refine ret1 (fn := Try.f102) (e := .ret) (.inl rfl) Try.results102 hS hR ⟨_, (.agg rfl Try.underlying190 rfl info190 (Rds.blk0 pkQ) (by rw [dlE_len]; rfl)), ?_⟩
   exact ⟨rfl, (hR.sub exQ)⟩
set_option maxHeartbeats 4000000 in
theorem Alike_ok {a b : Ky} {l : List HP} {w : World} (hR : Sep l w) (ha : WfK a) (hb : WfK b) : CallR Try.prog 101 [vK a, vK b] w (fun v w' => v = .int .i64 ((al a b : Nat) : Int) ∧ Sep l w') := by
 refine enter Try.func101 rfl Try.ntmps101 (Nat.le_of_ble_eq_true rfl) ?_; intro aa hS
 refine wp_seq_k ?_; intro K913 hK913
 refine wp_region_lit ?_
 refine sB (Bbox hS hR rfl (by rfl) (by decide) ?_); clear hS hR; intro aa ww bb2 hS hR
 refine sB (Bbox hS hR rfl (by rfl) (by decide) ?_); clear hS hR; intro aa ww bb3 hS hR
 revert aa
 refine qN hR ?_
 intro aa hS
 refine wpList_nil ?_
 refine hK913 _ _ ?_
 refine wp_seq_k ?_; intro K914 hK914
 have tail914 : ∀ (bb5 bb6 : Nat) (aa : Act) (ww : World), Has 24 aa [(5, .pointer (some ⟨bb5, 0, none⟩)), (6, .pointer (some ⟨bb6, 0, none⟩))] → Sep (blk bb5 ((dl a).flatMap e1) 190 :: blk bb6 ((dl b).flatMap e1) 190 :: l) ww → K914 aa ww := by
  clear hS hR; intro bb5 bb6 aa ww hS hR
  refine hK914 _ _ ?_
  refine wp_seq_k ?_; intro K915 hK915
  refine wp_seq_k ?_; intro K916 hK916
  refine wp_region_lit ?_
  revert aa
  refine qN hR ?_
  intro aa hS
  refine wpList_nil ?_
  refine hK916 _ _ ?_
  refine wp_block ?_
  refine loopI (X := Nat) [(5, _), (6, _)] (fun x => [(7, .int .i64 (x : Int))]) (fun x => []) _ (fun x => x ≤ 26 ∧ ∀ j, j < x → dig a j = dig b j) (fun x => 26 - x) 0 ⟨Nat.zero_le _, fun j h => by omega⟩ (hS.le (Le.cons rfl (Le.nilapp (Le.cons rfl (Le.cons rfl (Le.nil _)))))) hR ?_
  clear hS hR; rintro j aa ww hI hS hR; dsimp only [List.cons_append, List.nil_append] at hI hS hR
  refine wp_seq_k ?_; intro K918 hK918
  refine wp_seq_k ?_; intro K919 hK919
  refine wp_region_lit ?_
  revert aa
  refine qM hR ?_
  refine qA hR rfl (fun _ hS => Yld.lss hS rfl rfl) ?_
  intro aa hS
  refine wpList_nil ?_
  refine hK919 _ _ ?_
  refine hS.splitB (t := 13) rfl ?_ ?_ <;> clear hS
  ·
   intro hg hS
   refine condT hS rfl ?_
   refine wp_skip ?_
   refine hK918 _ _ ?_
   refine wp_seq_k ?_; intro K920 hK920
   refine wp_block ?_
   refine wp_seq_k ?_; intro K921 hK921
   refine drawn krQ hR Ex.refl ?_; clear hR; intro ww hR hR0
   revert aa
   refine eA 0 rfl krQ (fun _ _ _ h => h) hR0 rfl (fun _ hS => Yld.move hS rfl) ?_
   refine eA 1 rfl krQ (fun _ _ _ h => h) hR0 rfl (fun _ hS => Yld.to (u := .pointer (some ⟨bb5, j * 1, none⟩)) (Yld.indexArr hS rfl rfl Try.underlying190 info3 (by omega) (by omega)) (by have h1 : (Try.t3).size = 1 := rfl; rw [h1]; congr 3; omega)) ?_
   refine eA 2 rfl krQ (fun _ _ _ h => h) hR0 rfl (fun _ hS => Yld.load1 hS rfl Try.underlying3 rfl (Rd.blk pkQ (dlE_get' (by omega)))) ?_
   refine eA 3 rfl krQ (fun _ _ _ h => h) hR0 rfl (fun _ hS => Yld.move hS rfl) ?_
   refine eA 4 rfl krQ (fun _ _ _ h => h) hR0 rfl (fun _ hS => Yld.to (u := .pointer (some ⟨bb6, j * 1, none⟩)) (Yld.indexArr hS rfl rfl Try.underlying190 info3 (by omega) (by omega)) (by have h1 : (Try.t3).size = 1 := rfl; rw [h1]; congr 3; omega)) ?_
   refine eA 5 rfl krQ (fun _ _ _ h => h) hR0 rfl (fun _ hS => Yld.load1 hS rfl Try.underlying3 rfl (Rd.blk pkQ (dlE_get' (by omega)))) ?_
   refine eA 6 rfl krQ (fun _ _ _ h => h) hR0 rfl (fun _ hS => Yld.neq hS rfl rfl) ?_
   intro aa hS
   refine wpAnyH_done krQ ?_ _; clear hR0
   refine hK921 _ _ ?_
   refine hS.splitB (t := 22) rfl ?_ ?_ <;> clear hS
   ·
    intro hg hS
    have hal : al a b = j := al_uniq (by omega) hI.2 (fun _ => hg)
    refine condT hS rfl ?_
    refine wp_seq_k ?_; intro K922 hK922
    refine wp_region_lit ?_
    revert aa
    refine qM hR ?_
    refine qN hR ?_
    intro aa hS
    refine wpList_nil ?_
    refine hK922 _ _ ?_
    refine wp_ret ?_
    repeat first | with_reducible refine thenR ?_ | with_reducible refine blockR ?_ | with_reducible refine scopeR ?_
    refine ret1 (fn := Try.f101) (e := .ret) (.inl rfl) Try.results101 hS hR ⟨_, (.tmp rfl), ?_⟩
    refine ⟨?_, (hR.sub exQ)⟩
    rw [hal]; try rfl
   ·
    intro hg hS
    have heq : dig a j = dig b j := hg
    refine condF hS rfl ?_
    refine wp_skip ?_
    refine hK920 _ _ ?_
    refine wp_region_lit ?_
    revert aa
    refine qM hR ?_
    intro aa hS
    refine sA hS hR adQ (by decide) ?_; clear hS; intro aa hS
    revert aa
    refine qN hR ?_
    intro aa hS
    refine wpList_nil ?_
    refine ⟨j + 1, ?_, ?_, hS.le (Le.cons rfl (Le.nilapp (Le.cons rfl (Le.cons rfl (Le.nil _))))), hR.sub (Ex.nilapp exQ)⟩
    ·
     exact ⟨by omega, fun i hi => by
      by_cases e : i = j
      ·
       rw [e]; exact heq
      ·
       exact hI.2 i (by omega)⟩
    ·
     omega
  ·
   intro hg hS
   obtain rfl : j = 26 := by omega
   have hal : al a b = 26 := al_uniq (Nat.le_refl _) hI.2 (fun h => by omega)
   refine condF hS rfl ?_
   refine wp_exit ?_
   refine hK915 _ _ ?_
   refine wp_seq_k ?_; intro K923 hK923
   refine wp_region_lit ?_
   revert aa
   refine qN hR ?_
   intro aa hS
   refine wpList_nil ?_
   refine hK923 _ _ ?_
   refine wp_ret ?_
   repeat first | with_reducible refine thenR ?_ | with_reducible refine blockR ?_ | with_reducible refine scopeR ?_
   refine ret1 (fn := Try.f101) (e := .ret) (.inl rfl) Try.results101 hS hR ⟨_, (.tmp rfl), ?_⟩
   refine ⟨?_, (hR.sub exQ)⟩
   rw [hal]; try rfl
 refine drawn krQ hR Ex.refl ?_; clear hR; intro ww hR hR0
 refine dA 0 rfl krQ krQ krQ (fun _ _ _ h => h) hS hR0 (Yld.loadAgg hS rfl Try.underlying35 rfl info35 rdsQ5 (by rfl)) (by decide) ?_; clear hS; intro aa hS
 refine dA 2 rfl krQ krQ krQ (fun _ _ _ h => h) hS hR0 (Yld.loadAgg hS rfl Try.underlying35 rfl info35 rdsQ5 (by rfl)) (by decide) ?_; clear hS; intro aa hS
 refine dThree (i := 1) (j := 4) (m := 5) krQ ?_ ?_ ?_
 ·
  refine dop rfl (Bcall hS rfl Try.call102 (Digits_ok (k := a) hR ha) (by decide) ?_); clear hS; intro aa ww vv hS hp
  clear hR hR0
  obtain ⟨rfl, hR⟩ := hp
  refine dnext (hR.sub exQ) ?_; intro hR0
  refine dThree (i := 3) (j := 4) (m := 5) krQ ?_ ?_ ?_
  ·
   refine dop rfl (Bcall hS rfl Try.call102 (Digits_ok (k := b) hR hb) (by decide) ?_); clear hS; intro aa ww vv hS hp
   clear hR hR0
   obtain ⟨rfl, hR⟩ := hp
   refine dnext (hR.sub exQ) ?_; intro hR0
   refine dTwo (i := 4) (j := 5) krQ ?_ ?_
   ·
    refine dop rfl (Balloc hS hR info190 (by rfl) (by rfl) (by decide) ?_); clear hS hR hR0; intro aa ww bb5 hS hR
    refine dnext (hR.sub exQ) ?_; intro hR0
    refine dOne (i := 5) krQ ?_
    refine dop rfl (Balloc hS hR info190 (by rfl) (by rfl) (by decide) ?_); clear hS hR hR0; intro aa ww bb6 hS hR
    refine dnext (hR.sub exQ) ?_; intro hR0
    refine dOne (i := 6) krQ ?_
    refine dop rfl (Bstore hS hR rfl rfl (by rfl) info190 (by rfl) pkQ (by rfl) (by rw [dlE_len]; exact Nat.le_refl _) ?_); clear hR hR0; intro ww hR
    replace hR := hR.layAll (by rw [dlE_len]; rfl)
    refine dnext (hR.sub exQ) ?_; intro hR0
    refine dOne (i := 7) krQ ?_
    refine dop rfl (Bstore hS hR rfl rfl (by rfl) info190 (by rfl) pkQ (by rfl) (by rw [dlE_len]; exact Nat.le_refl _) ?_); clear hR hR0; intro ww hR
    replace hR := hR.layAll (by rw [dlE_len]; rfl)
    refine dnext (hR.sub exQ) ?_; intro hR0
    refine wpAnyH_done krQ ?_ _; clear hR0
    exact tail914 bb5 bb6 _ _ (hS.le (Le.cons rfl (Le.cons rfl (Le.nil _)))) (hR.sub exQ)
   ·
    refine dop rfl (Balloc hS hR info190 (by rfl) (by rfl) (by decide) ?_); clear hS hR hR0; intro aa ww bb6 hS hR
    refine dnext (hR.sub exQ) ?_; intro hR0
    refine dOne (i := 4) krQ ?_
    refine dop rfl (Balloc hS hR info190 (by rfl) (by rfl) (by decide) ?_); clear hS hR hR0; intro aa ww bb5 hS hR
    refine dnext (hR.sub exQ) ?_; intro hR0
    refine dOne (i := 6) krQ ?_
    refine dop rfl (Bstore hS hR rfl rfl (by rfl) info190 (by rfl) pkQ (by rfl) (by rw [dlE_len]; exact Nat.le_refl _) ?_); clear hR hR0; intro ww hR
    replace hR := hR.layAll (by rw [dlE_len]; rfl)
    refine dnext (hR.sub exQ) ?_; intro hR0
    refine dOne (i := 7) krQ ?_
    refine dop rfl (Bstore hS hR rfl rfl (by rfl) info190 (by rfl) pkQ (by rfl) (by rw [dlE_len]; exact Nat.le_refl _) ?_); clear hR hR0; intro ww hR
    replace hR := hR.layAll (by rw [dlE_len]; rfl)
    refine dnext (hR.sub exQ) ?_; intro hR0
    refine wpAnyH_done krQ ?_ _; clear hR0
    exact tail914 bb5 bb6 _ _ (hS.le (Le.cons rfl (Le.cons rfl (Le.nil _)))) (hR.sub exQ)
  ·
   refine dop rfl (Balloc hS hR info190 (by rfl) (by rfl) (by decide) ?_); clear hS hR hR0; intro aa ww bb5 hS hR
   refine dnext (hR.sub exQ) ?_; intro hR0
   refine dTwo (i := 3) (j := 5) krQ ?_ ?_
   ·
    refine dop rfl (Bcall hS rfl Try.call102 (Digits_ok (k := b) hR hb) (by decide) ?_); clear hS; intro aa ww vv hS hp
    clear hR hR0
    obtain ⟨rfl, hR⟩ := hp
    refine dnext (hR.sub exQ) ?_; intro hR0
    refine dOne (i := 5) krQ ?_
    refine dop rfl (Balloc hS hR info190 (by rfl) (by rfl) (by decide) ?_); clear hS hR hR0; intro aa ww bb6 hS hR
    refine dnext (hR.sub exQ) ?_; intro hR0
    refine dOne (i := 6) krQ ?_
    refine dop rfl (Bstore hS hR rfl rfl (by rfl) info190 (by rfl) pkQ (by rfl) (by rw [dlE_len]; exact Nat.le_refl _) ?_); clear hR hR0; intro ww hR
    replace hR := hR.layAll (by rw [dlE_len]; rfl)
    refine dnext (hR.sub exQ) ?_; intro hR0
    refine dOne (i := 7) krQ ?_
    refine dop rfl (Bstore hS hR rfl rfl (by rfl) info190 (by rfl) pkQ (by rfl) (by rw [dlE_len]; exact Nat.le_refl _) ?_); clear hR hR0; intro ww hR
    replace hR := hR.layAll (by rw [dlE_len]; rfl)
    refine dnext (hR.sub exQ) ?_; intro hR0
    refine wpAnyH_done krQ ?_ _; clear hR0
    exact tail914 bb5 bb6 _ _ (hS.le (Le.cons rfl (Le.cons rfl (Le.nil _)))) (hR.sub exQ)
   ·
    refine dop rfl (Balloc hS hR info190 (by rfl) (by rfl) (by decide) ?_); clear hS hR hR0; intro aa ww bb6 hS hR
    refine dnext (hR.sub exQ) ?_; intro hR0
    refine dOne (i := 3) krQ ?_
    refine dop rfl (Bcall hS rfl Try.call102 (Digits_ok (k := b) hR hb) (by decide) ?_); clear hS; intro aa ww vv hS hp
    clear hR hR0
    obtain ⟨rfl, hR⟩ := hp
    refine dnext (hR.sub exQ) ?_; intro hR0
    refine dOne (i := 6) krQ ?_
    refine dop rfl (Bstore hS hR rfl rfl (by rfl) info190 (by rfl) pkQ (by rfl) (by rw [dlE_len]; exact Nat.le_refl _) ?_); clear hR hR0; intro ww hR
    replace hR := hR.layAll (by rw [dlE_len]; rfl)
    refine dnext (hR.sub exQ) ?_; intro hR0
    refine dOne (i := 7) krQ ?_
    refine dop rfl (Bstore hS hR rfl rfl (by rfl) info190 (by rfl) pkQ (by rfl) (by rw [dlE_len]; exact Nat.le_refl _) ?_); clear hR hR0; intro ww hR
    replace hR := hR.layAll (by rw [dlE_len]; rfl)
    refine dnext (hR.sub exQ) ?_; intro hR0
    refine wpAnyH_done krQ ?_ _; clear hR0
    exact tail914 bb5 bb6 _ _ (hS.le (Le.cons rfl (Le.cons rfl (Le.nil _)))) (hR.sub exQ)
  ·
   refine dop rfl (Balloc hS hR info190 (by rfl) (by rfl) (by decide) ?_); clear hS hR hR0; intro aa ww bb6 hS hR
   refine dnext (hR.sub exQ) ?_; intro hR0
   refine dTwo (i := 3) (j := 4) krQ ?_ ?_
   ·
    refine dop rfl (Bcall hS rfl Try.call102 (Digits_ok (k := b) hR hb) (by decide) ?_); clear hS; intro aa ww vv hS hp
    clear hR hR0
    obtain ⟨rfl, hR⟩ := hp
    refine dnext (hR.sub exQ) ?_; intro hR0
    refine dOne (i := 4) krQ ?_
    refine dop rfl (Balloc hS hR info190 (by rfl) (by rfl) (by decide) ?_); clear hS hR hR0; intro aa ww bb5 hS hR
    refine dnext (hR.sub exQ) ?_; intro hR0
    refine dOne (i := 6) krQ ?_
    refine dop rfl (Bstore hS hR rfl rfl (by rfl) info190 (by rfl) pkQ (by rfl) (by rw [dlE_len]; exact Nat.le_refl _) ?_); clear hR hR0; intro ww hR
    replace hR := hR.layAll (by rw [dlE_len]; rfl)
    refine dnext (hR.sub exQ) ?_; intro hR0
    refine dOne (i := 7) krQ ?_
    refine dop rfl (Bstore hS hR rfl rfl (by rfl) info190 (by rfl) pkQ (by rfl) (by rw [dlE_len]; exact Nat.le_refl _) ?_); clear hR hR0; intro ww hR
    replace hR := hR.layAll (by rw [dlE_len]; rfl)
    refine dnext (hR.sub exQ) ?_; intro hR0
    refine wpAnyH_done krQ ?_ _; clear hR0
    exact tail914 bb5 bb6 _ _ (hS.le (Le.cons rfl (Le.cons rfl (Le.nil _)))) (hR.sub exQ)
   ·
    refine dop rfl (Balloc hS hR info190 (by rfl) (by rfl) (by decide) ?_); clear hS hR hR0; intro aa ww bb5 hS hR
    refine dnext (hR.sub exQ) ?_; intro hR0
    refine dOne (i := 3) krQ ?_
    refine dop rfl (Bcall hS rfl Try.call102 (Digits_ok (k := b) hR hb) (by decide) ?_); clear hS; intro aa ww vv hS hp
    clear hR hR0
    obtain ⟨rfl, hR⟩ := hp
    refine dnext (hR.sub exQ) ?_; intro hR0
    refine dOne (i := 6) krQ ?_
    refine dop rfl (Bstore hS hR rfl rfl (by rfl) info190 (by rfl) pkQ (by rfl) (by rw [dlE_len]; exact Nat.le_refl _) ?_); clear hR hR0; intro ww hR
    replace hR := hR.layAll (by rw [dlE_len]; rfl)
    refine dnext (hR.sub exQ) ?_; intro hR0
    refine dOne (i := 7) krQ ?_
    refine dop rfl (Bstore hS hR rfl rfl (by rfl) info190 (by rfl) pkQ (by rfl) (by rw [dlE_len]; exact Nat.le_refl _) ?_); clear hR hR0; intro ww hR
    replace hR := hR.layAll (by rw [dlE_len]; rfl)
    refine dnext (hR.sub exQ) ?_; intro hR0
    refine wpAnyH_done krQ ?_ _; clear hR0
    exact tail914 bb5 bb6 _ _ (hS.le (Le.cons rfl (Le.cons rfl (Le.nil _)))) (hR.sub exQ)
 ·
  refine dop rfl (Balloc hS hR info190 (by rfl) (by rfl) (by decide) ?_); clear hS hR hR0; intro aa ww bb5 hS hR
  refine dnext (hR.sub exQ) ?_; intro hR0
  refine dTwo (i := 1) (j := 5) krQ ?_ ?_
  ·
   refine dop rfl (Bcall hS rfl Try.call102 (Digits_ok (k := a) hR ha) (by decide) ?_); clear hS; intro aa ww vv hS hp
   clear hR hR0
   obtain ⟨rfl, hR⟩ := hp
   refine dnext (hR.sub exQ) ?_; intro hR0
   refine dTwo (i := 3) (j := 5) krQ ?_ ?_
   ·
    refine dop rfl (Bcall hS rfl Try.call102 (Digits_ok (k := b) hR hb) (by decide) ?_); clear hS; intro aa ww vv hS hp
    clear hR hR0
    obtain ⟨rfl, hR⟩ := hp
    refine dnext (hR.sub exQ) ?_; intro hR0
    refine dOne (i := 5) krQ ?_
    refine dop rfl (Balloc hS hR info190 (by rfl) (by rfl) (by decide) ?_); clear hS hR hR0; intro aa ww bb6 hS hR
    refine dnext (hR.sub exQ) ?_; intro hR0
    refine dOne (i := 6) krQ ?_
    refine dop rfl (Bstore hS hR rfl rfl (by rfl) info190 (by rfl) pkQ (by rfl) (by rw [dlE_len]; exact Nat.le_refl _) ?_); clear hR hR0; intro ww hR
    replace hR := hR.layAll (by rw [dlE_len]; rfl)
    refine dnext (hR.sub exQ) ?_; intro hR0
    refine dOne (i := 7) krQ ?_
    refine dop rfl (Bstore hS hR rfl rfl (by rfl) info190 (by rfl) pkQ (by rfl) (by rw [dlE_len]; exact Nat.le_refl _) ?_); clear hR hR0; intro ww hR
    replace hR := hR.layAll (by rw [dlE_len]; rfl)
    refine dnext (hR.sub exQ) ?_; intro hR0
    refine wpAnyH_done krQ ?_ _; clear hR0
    exact tail914 bb5 bb6 _ _ (hS.le (Le.cons rfl (Le.cons rfl (Le.nil _)))) (hR.sub exQ)
   ·
    refine dop rfl (Balloc hS hR info190 (by rfl) (by rfl) (by decide) ?_); clear hS hR hR0; intro aa ww bb6 hS hR
    refine dnext (hR.sub exQ) ?_; intro hR0
    refine dOne (i := 3) krQ ?_
    refine dop rfl (Bcall hS rfl Try.call102 (Digits_ok (k := b) hR hb) (by decide) ?_); clear hS; intro aa ww vv hS hp
    clear hR hR0
    obtain ⟨rfl, hR⟩ := hp
    refine dnext (hR.sub exQ) ?_; intro hR0
    refine dOne (i := 6) krQ ?_
    refine dop rfl (Bstore hS hR rfl rfl (by rfl) info190 (by rfl) pkQ (by rfl) (by rw [dlE_len]; exact Nat.le_refl _) ?_); clear hR hR0; intro ww hR
    replace hR := hR.layAll (by rw [dlE_len]; rfl)
    refine dnext (hR.sub exQ) ?_; intro hR0
    refine dOne (i := 7) krQ ?_
    refine dop rfl (Bstore hS hR rfl rfl (by rfl) info190 (by rfl) pkQ (by rfl) (by rw [dlE_len]; exact Nat.le_refl _) ?_); clear hR hR0; intro ww hR
    replace hR := hR.layAll (by rw [dlE_len]; rfl)
    refine dnext (hR.sub exQ) ?_; intro hR0
    refine wpAnyH_done krQ ?_ _; clear hR0
    exact tail914 bb5 bb6 _ _ (hS.le (Le.cons rfl (Le.cons rfl (Le.nil _)))) (hR.sub exQ)
  ·
   refine dop rfl (Balloc hS hR info190 (by rfl) (by rfl) (by decide) ?_); clear hS hR hR0; intro aa ww bb6 hS hR
   refine dnext (hR.sub exQ) ?_; intro hR0
   refine dOne (i := 1) krQ ?_
   refine dop rfl (Bcall hS rfl Try.call102 (Digits_ok (k := a) hR ha) (by decide) ?_); clear hS; intro aa ww vv hS hp
   clear hR hR0
   obtain ⟨rfl, hR⟩ := hp
   refine dnext (hR.sub exQ) ?_; intro hR0
   refine dOne (i := 3) krQ ?_
   refine dop rfl (Bcall hS rfl Try.call102 (Digits_ok (k := b) hR hb) (by decide) ?_); clear hS; intro aa ww vv hS hp
   clear hR hR0
   obtain ⟨rfl, hR⟩ := hp
   refine dnext (hR.sub exQ) ?_; intro hR0
   refine dOne (i := 6) krQ ?_
   refine dop rfl (Bstore hS hR rfl rfl (by rfl) info190 (by rfl) pkQ (by rfl) (by rw [dlE_len]; exact Nat.le_refl _) ?_); clear hR hR0; intro ww hR
   replace hR := hR.layAll (by rw [dlE_len]; rfl)
   refine dnext (hR.sub exQ) ?_; intro hR0
   refine dOne (i := 7) krQ ?_
   refine dop rfl (Bstore hS hR rfl rfl (by rfl) info190 (by rfl) pkQ (by rfl) (by rw [dlE_len]; exact Nat.le_refl _) ?_); clear hR hR0; intro ww hR
   replace hR := hR.layAll (by rw [dlE_len]; rfl)
   refine dnext (hR.sub exQ) ?_; intro hR0
   refine wpAnyH_done krQ ?_ _; clear hR0
   exact tail914 bb5 bb6 _ _ (hS.le (Le.cons rfl (Le.cons rfl (Le.nil _)))) (hR.sub exQ)
 ·
  refine dop rfl (Balloc hS hR info190 (by rfl) (by rfl) (by decide) ?_); clear hS hR hR0; intro aa ww bb6 hS hR
  refine dnext (hR.sub exQ) ?_; intro hR0
  refine dTwo (i := 1) (j := 4) krQ ?_ ?_
  ·
   refine dop rfl (Bcall hS rfl Try.call102 (Digits_ok (k := a) hR ha) (by decide) ?_); clear hS; intro aa ww vv hS hp
   clear hR hR0
   obtain ⟨rfl, hR⟩ := hp
   refine dnext (hR.sub exQ) ?_; intro hR0
   refine dTwo (i := 3) (j := 4) krQ ?_ ?_
   ·
    refine dop rfl (Bcall hS rfl Try.call102 (Digits_ok (k := b) hR hb) (by decide) ?_); clear hS; intro aa ww vv hS hp
    clear hR hR0
    obtain ⟨rfl, hR⟩ := hp
    refine dnext (hR.sub exQ) ?_; intro hR0
    refine dOne (i := 4) krQ ?_
    refine dop rfl (Balloc hS hR info190 (by rfl) (by rfl) (by decide) ?_); clear hS hR hR0; intro aa ww bb5 hS hR
    refine dnext (hR.sub exQ) ?_; intro hR0
    refine dOne (i := 6) krQ ?_
    refine dop rfl (Bstore hS hR rfl rfl (by rfl) info190 (by rfl) pkQ (by rfl) (by rw [dlE_len]; exact Nat.le_refl _) ?_); clear hR hR0; intro ww hR
    replace hR := hR.layAll (by rw [dlE_len]; rfl)
    refine dnext (hR.sub exQ) ?_; intro hR0
    refine dOne (i := 7) krQ ?_
    refine dop rfl (Bstore hS hR rfl rfl (by rfl) info190 (by rfl) pkQ (by rfl) (by rw [dlE_len]; exact Nat.le_refl _) ?_); clear hR hR0; intro ww hR
    replace hR := hR.layAll (by rw [dlE_len]; rfl)
    refine dnext (hR.sub exQ) ?_; intro hR0
    refine wpAnyH_done krQ ?_ _; clear hR0
    exact tail914 bb5 bb6 _ _ (hS.le (Le.cons rfl (Le.cons rfl (Le.nil _)))) (hR.sub exQ)
   ·
    refine dop rfl (Balloc hS hR info190 (by rfl) (by rfl) (by decide) ?_); clear hS hR hR0; intro aa ww bb5 hS hR
    refine dnext (hR.sub exQ) ?_; intro hR0
    refine dOne (i := 3) krQ ?_
    refine dop rfl (Bcall hS rfl Try.call102 (Digits_ok (k := b) hR hb) (by decide) ?_); clear hS; intro aa ww vv hS hp
    clear hR hR0
    obtain ⟨rfl, hR⟩ := hp
    refine dnext (hR.sub exQ) ?_; intro hR0
    refine dOne (i := 6) krQ ?_
    refine dop rfl (Bstore hS hR rfl rfl (by rfl) info190 (by rfl) pkQ (by rfl) (by rw [dlE_len]; exact Nat.le_refl _) ?_); clear hR hR0; intro ww hR
    replace hR := hR.layAll (by rw [dlE_len]; rfl)
    refine dnext (hR.sub exQ) ?_; intro hR0
    refine dOne (i := 7) krQ ?_
    refine dop rfl (Bstore hS hR rfl rfl (by rfl) info190 (by rfl) pkQ (by rfl) (by rw [dlE_len]; exact Nat.le_refl _) ?_); clear hR hR0; intro ww hR
    replace hR := hR.layAll (by rw [dlE_len]; rfl)
    refine dnext (hR.sub exQ) ?_; intro hR0
    refine wpAnyH_done krQ ?_ _; clear hR0
    exact tail914 bb5 bb6 _ _ (hS.le (Le.cons rfl (Le.cons rfl (Le.nil _)))) (hR.sub exQ)
  ·
   refine dop rfl (Balloc hS hR info190 (by rfl) (by rfl) (by decide) ?_); clear hS hR hR0; intro aa ww bb5 hS hR
   refine dnext (hR.sub exQ) ?_; intro hR0
   refine dOne (i := 1) krQ ?_
   refine dop rfl (Bcall hS rfl Try.call102 (Digits_ok (k := a) hR ha) (by decide) ?_); clear hS; intro aa ww vv hS hp
   clear hR hR0
   obtain ⟨rfl, hR⟩ := hp
   refine dnext (hR.sub exQ) ?_; intro hR0
   refine dOne (i := 3) krQ ?_
   refine dop rfl (Bcall hS rfl Try.call102 (Digits_ok (k := b) hR hb) (by decide) ?_); clear hS; intro aa ww vv hS hp
   clear hR hR0
   obtain ⟨rfl, hR⟩ := hp
   refine dnext (hR.sub exQ) ?_; intro hR0
   refine dOne (i := 6) krQ ?_
   refine dop rfl (Bstore hS hR rfl rfl (by rfl) info190 (by rfl) pkQ (by rfl) (by rw [dlE_len]; exact Nat.le_refl _) ?_); clear hR hR0; intro ww hR
   replace hR := hR.layAll (by rw [dlE_len]; rfl)
   refine dnext (hR.sub exQ) ?_; intro hR0
   refine dOne (i := 7) krQ ?_
   refine dop rfl (Bstore hS hR rfl rfl (by rfl) info190 (by rfl) pkQ (by rfl) (by rw [dlE_len]; exact Nat.le_refl _) ?_); clear hR hR0; intro ww hR
   replace hR := hR.layAll (by rw [dlE_len]; rfl)
   refine dnext (hR.sub exQ) ?_; intro hR0
   refine wpAnyH_done krQ ?_ _; clear hR0
   exact tail914 bb5 bb6 _ _ (hS.le (Le.cons rfl (Le.cons rfl (Le.nil _)))) (hR.sub exQ)
theorem before_ok {a b : Ky} {l : List HP} {w : World} (hR : Sep l w) (ha : WfK a) (hb : WfK b) : CallR Try.prog 100 [vK a, vK b] w (fun v w' => v = .bool (decide (al a b < 26 ∧ dig a (al a b) < dig b (al a b))) ∧ Sep l w') := by
 refine enter Try.func100 rfl Try.ntmps100 (Nat.le_of_ble_eq_true rfl) ?_; intro aa hS
 have hal := al_le (a := a) (b := b)
 refine wp_seq_k ?_; intro K924 hK924
 refine wp_region_lit ?_
 refine sB (Bbox hS hR rfl (by rfl) (by decide) ?_); clear hS hR; intro aa ww bb2 hS hR
 refine sB (Bbox hS hR rfl (by rfl) (by decide) ?_); clear hS hR; intro aa ww bb3 hS hR
 revert aa
 refine qN hR ?_
 intro aa hS
 refine wpList_nil ?_
 refine hK924 _ _ ?_
 refine wp_seq_k ?_; intro K925 hK925
 refine wp_region_lit ?_
 refine sA hS hR (Yld.loadAgg hS rfl Try.underlying35 rfl info35 rdsQ5 (by rfl)) (by decide) ?_; clear hS; intro aa hS
 refine sA hS hR (Yld.loadAgg hS rfl Try.underlying35 rfl info35 rdsQ5 (by rfl)) (by decide) ?_; clear hS; intro aa hS
 refine sB (Bcall hS rfl Try.call101 (Alike_ok hR (by assumption) (by assumption)) (by decide) ?_); clear hS; intro aa ww vv hS hp
 clear hR
 obtain ⟨rfl, hR⟩ := hp
 revert aa
 refine qN hR ?_
 intro aa hS
 refine wpList_nil ?_
 refine hK925 _ _ ?_
 refine wp_seq_k ?_; intro K926 hK926
 refine drawn krQ hR Ex.refl ?_; clear hR; intro ww hR hR0
 revert aa
 refine eA 0 rfl krQ (fun _ _ _ h => h) hR0 rfl (fun _ hS => Yld.move hS rfl) ?_
 refine eA 1 rfl krQ (fun _ _ _ h => h) hR0 rfl (fun _ hS => Yld.lss hS rfl rfl) ?_
 refine eA 2 rfl krQ (fun _ _ _ h => h) hR0 rfl (fun _ hS => Yld.move hS rfl) ?_
 intro aa hS
 refine hS.splitB (t := 11) rfl ?_ ?_ <;> clear hS
 ·
  intro hg hS
  refine dAg 3 rfl krQ krQ krQ (fun _ _ _ h => h) hS rfl rfl hR0 (Yld.loadAgg hS rfl Try.underlying35 rfl info35 rdsQ5 (by rfl)) (by decide) ?_; clear hS; intro aa hS
  revert aa
  refine eAg 5 rfl krQ (fun _ _ _ h => h) hR0 rfl rfl rfl (fun _ hS => Yld.move hS rfl) ?_
  intro aa hS
  refine dAg 7 rfl krQ krQ krQ (fun _ _ _ h => h) hS rfl rfl hR0 (Yld.loadAgg hS rfl Try.underlying35 rfl info35 rdsQ5 (by rfl)) (by decide) ?_; clear hS; intro aa hS
  revert aa
  refine eAg 9 rfl krQ (fun _ _ _ h => h) hR0 rfl rfl rfl (fun _ hS => Yld.move hS rfl) ?_
  intro aa hS
  refine dOne (i := 4) krQ ?_
  refine dopg rfl hS rfl rfl (Bcall hS rfl Try.call102 (Digits_ok (k := a) hR ha) (by decide) ?_); clear hS; intro aa ww vv hS hp
  clear hR hR0
  obtain ⟨rfl, hR⟩ := hp
  refine dnext (hR.sub exQ) ?_; intro hR0
  revert aa
  refine eAg 6 rfl krQ (fun _ _ _ h => h) hR0 rfl rfl rfl (fun _ hS => Yld.indexW (m := al a b) hS rfl rfl Try.underlying190 info3 rfl (fun w => by kernel_rfl) (by omega) (dlE_get (by omega))) ?_
  intro aa hS
  refine dOne (i := 8) krQ ?_
  refine dopg rfl hS rfl rfl (Bcall hS rfl Try.call102 (Digits_ok (k := b) hR hb) (by decide) ?_); clear hS; intro aa ww vv hS hp
  clear hR hR0
  obtain ⟨rfl, hR⟩ := hp
  refine dnext (hR.sub exQ) ?_; intro hR0
  revert aa
  refine eAg 10 rfl krQ (fun _ _ _ h => h) hR0 rfl rfl rfl (fun _ hS => Yld.indexW (m := al a b) hS rfl rfl Try.underlying190 info3 rfl (fun w => by kernel_rfl) (by omega) (dlE_get (by omega))) ?_
  refine eAg 11 rfl krQ (fun _ _ _ h => h) hR0 rfl rfl rfl (fun _ hS => Yld.lss hS rfl rfl) ?_
  refine eA 12 rfl krQ (fun _ _ _ h => h) hR0 rfl (fun _ hS => Yld.pickT hS rfl rfl) ?_
  refine eA 13 rfl krQ (fun _ _ _ h => h) hR0 rfl (fun _ hS => Yld.assign hS rfl) ?_
  intro aa hS
  refine wpAnyH_done krQ ?_ _; clear hR0
  refine hK926 _ _ ?_
  refine wp_ret ?_
  repeat first | with_reducible refine thenR ?_ | with_reducible refine blockR ?_ | with_reducible refine scopeR ?_
  refine ret1 (fn := Try.f100) (e := .ret) (.inl rfl) Try.results100 hS hR ⟨_, (.tmp rfl), ?_⟩
  refine ⟨?_, (hR.sub exQ)⟩
  exact dec_iff ⟨fun h => ⟨by omega, h⟩, fun h => h.2⟩
 ·
  intro hg hS
  revert aa
  refine eZ 3 rfl hR0 ?_
  refine eZ 4 rfl hR0 ?_
  refine eZ 5 rfl hR0 ?_
  refine eZ 6 rfl hR0 ?_
  refine eZ 7 rfl hR0 ?_
  refine eZ 8 rfl hR0 ?_
  refine eZ 9 rfl hR0 ?_
  refine eZ 10 rfl hR0 ?_
  refine eZ 11 rfl hR0 ?_
  refine eA 12 rfl krQ (fun _ _ _ h => h) hR0 rfl (fun _ hS => Yld.pickF hS rfl rfl) ?_
  refine eA 13 rfl krQ (fun _ _ _ h => h) hR0 rfl (fun _ hS => Yld.assign hS rfl) ?_
  intro aa hS
  refine wpAnyH_done krQ ?_ _; clear hR0
  refine hK926 _ _ ?_
  refine wp_ret ?_
  repeat first | with_reducible refine thenR ?_ | with_reducible refine blockR ?_ | with_reducible refine scopeR ?_
  refine ret1 (fn := Try.f100) (e := .ret) (.inl rfl) Try.results100 hS hR ⟨_, (.tmp rfl), ?_⟩
  refine ⟨?_, (hR.sub exQ)⟩
  exact dec_no (fun h => by have := h.1; omega)
end Go.Proofs.Ythhndmlfgjcgpaa.Sx
