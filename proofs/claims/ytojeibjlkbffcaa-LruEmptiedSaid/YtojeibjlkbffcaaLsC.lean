/-
  
-/
import Derived.Test.YtojeibjlkbffcaaLsB
namespace Go.Proofs.Ytojeibjlkbffcaa.Sx
open Go
set_option linter.unusedVariables false
set_option linter.unusedSimpArgs false



set_option maxHeartbeats 4000000 in
set_option maxRecDepth 20000 in
theorem LruEmptied_ok {W : World} {q : Option Addr} {n c : Nat} {xs : List (List Int)} (A1 : ArgS W [.u8] q n c xs) {l : List HP} {w : World} (hR : Sep (old W :: l) w) : CallR Try.prog 3 [.slice q n c] w (fun v w' => v = .bool true ∧ Sep (old W :: l) w') := by
  refine enter Try.func3 rfl Try.ntmps3 (Nat.le_of_ble_eq_true rfl) ?_; intro aa hS
  have hcap := A1.cap
  refine wp_seq_k ?_; intro K273 hK273
  refine wp_region_lit ?_
  refine sA hS hR (Yld.assign hS rfl) (by decide) ?_; clear hS; intro aa hS
  refine wpList_nil ?_
  refine hK273 _ _ ?_
  refine wp_seq_k ?_; intro K274 hK274
  refine wp_region_lit ?_
  refine sA hS hR (Yld.move hS rfl) (by decide) ?_; clear hS; intro aa hS
  refine sB (Bcall hS rfl Try.call10 (seen_ok A1 hR) (by decide) ?_); clear hS; intro aa ww vv hS hp
  clear hR
  obtain ⟨b, ord, T, now, tm, rfl, hLI, hn0, hn1, hR⟩ := hp
  have hol := hLI.len
  refine sA hS hR (Yld.move hS rfl) (by decide) ?_; clear hS; intro aa hS
  refine sA hS hR (Yld.extract hS rfl rfl) (by decide) ?_; clear hS; intro aa hS
  refine sA hS hR (Yld.extract hS rfl rfl) (by decide) ?_; clear hS; intro aa hS
  refine sA hS hR (Yld.extract hS rfl rfl) (by decide) ?_; clear hS; intro aa hS
  refine sB (Balloc hS hR info24 (by rfl) (by rfl) (by decide) ?_); clear hS hR; intro aa ww bb4 hS hR
  refine sA hS hR (Yld.assign hS rfl) (by decide) ?_; clear hS; intro aa hS
  refine sB (Bstore hS hR rfl rfl (by rfl) info24 (by rfl) (by repeat (first | with_reducible exact Pk.here | with_reducible apply Pk.there)) (by rfl) (Nat.le_of_ble_eq_true rfl) ?_); clear hR; intro ww hR
  refine sA hS hR (Yld.assign hS rfl) (by decide) ?_; clear hS; intro aa hS
  refine wpList_nil ?_
  refine hK274 _ _ ?_
  refine wp_seq_k ?_; intro K275 hK275
  refine wp_seq_k ?_; intro K276 hK276
  refine wp_region_lit ?_
  refine sA hS hR (Yld.move hS rfl) (by decide) ?_; clear hS; intro aa hS
  refine sA hS hR (Yld.not hS rfl) (by decide) ?_; clear hS; intro aa hS
  replace hS := hS.sayB (t := 17) false rfl (by rfl)
  refine wpList_nil ?_
  refine hK276 _ _ ?_
  refine condF hS rfl ?_
  refine wp_skip ?_
  refine hK275 _ _ ?_
  refine wp_seq_k ?_; intro K277 hK277
  refine wp_region_lit ?_
  refine sA hS hR (Yld.assign hS rfl) (by decide) ?_; clear hS; intro aa hS
  refine wpList_nil ?_
  refine hK277 _ _ ?_
  refine wp_seq_k ?_; intro K278 hK278
  refine wp_region_lit ?_
  refine sA hS hR (Yld.move hS rfl) (by decide) ?_; clear hS; intro aa hS
  refine sB (Bcall hS rfl Try.call11 (lrAll_ok  (hR.pk (r := lruA _ _ _ _ _ _ _ _ _) (by repeat (first | with_reducible exact Pk.here | with_reducible apply Pk.there)))) (by decide) ?_); clear hS; intro aa ww vv hS hp
  clear hR
  obtain ⟨ra, cra, rfl, hR⟩ := hp
  have hcl := cst_len (l := ord)
  refine sA hS hR (Yld.assign hS rfl) (by decide) ?_; clear hS; intro aa hS
  refine wpList_nil ?_
  refine hK278 _ _ ?_
  refine wp_seq_k ?_; intro K279 hK279
  refine wp_seq_k ?_; intro K280 hK280
  refine wp_region_lit ?_
  refine sA hS hR (Yld.move hS rfl) (by decide) ?_; clear hS; intro aa hS
  refine wpList_nil ?_
  refine hK280 _ _ ?_
  refine wp_block ?_
  replace hR := hR.slsNil (T := 3) (sz := 1)
  replace hR := hR.pk (r := sls none 0 0 3 1 []) (by repeat (first | with_reducible exact Pk.here | with_reducible apply Pk.there))
  replace hR := hR.pk (r := lruA 56 80 77 3 b 16 ord T now) (by repeat (first | with_reducible exact Pk.here | with_reducible apply Pk.there))
  refine loopI (X := Nat × List Nat × List Nat × Option Addr × Nat) [(3, _), (7, _)] (fun x => [(6, .slice x.2.2.2.1 (cst x.2.1).length x.2.2.2.2), (20, .int .i64 (x.1 : Int))]) (fun x => [lruA 56 80 77 3 b 16 x.2.2.1 T now, sls x.2.2.2.1 (cst x.2.1).length x.2.2.2.2 3 1 ((cst x.2.1).flatMap e1)]) _ (fun x => x.1 ≤ 17 ∧ x.2.1 ++ x.2.2.1 = ord ∧ x.2.1.length = x.1) (fun x => 17 - x.1) (0, [], ord, none, 0) ⟨Nat.zero_le _, rfl, rfl⟩ (hS.le (Le.cons rfl (Le.cons rfl (Le.nilapp (Le.cons rfl (Le.cons rfl (Le.nil _))))))) hR ?_
  clear hS hR; rintro ⟨j, done, rest, r0, c0⟩ aa ww hI hS hR; dsimp only [List.cons_append, List.nil_append] at hI hS hR
  refine wp_seq_k ?_; intro K282 hK282
  refine wp_region_lit ?_
  refine sA hS hR (Yld.lss hS rfl rfl) (by decide) ?_; clear hS; intro aa hS
  refine wpList_nil ?_
  refine hK282 _ _ ?_
  refine wp_seq_k ?_; intro K283 hK283
  refine hS.splitB (t := 21) rfl ?_ ?_ <;> clear hS
  · intro hg hS
    refine condT hS rfl ?_
    refine wp_skip ?_
    refine hK283 _ _ ?_
    refine wp_seq_k ?_; intro K284 hK284
    refine wp_block ?_
    refine wp_seq_k ?_; intro K285 hK285
    refine wp_region_lit ?_
    refine sA hS hR (Yld.move hS rfl) (by decide) ?_; clear hS; intro aa hS
    refine sB (Bcall hS rfl Try.call12 (lrOldest_ok (hR.pk (r := lruA _ _ _ _ _ _ _ _ _) (by repeat (first | with_reducible exact Pk.here | with_reducible apply Pk.there)))) (by decide) ?_); clear hS; intro aa ww vv hS hp
    clear hR
    obtain ⟨rfl, hR⟩ := hp
    refine sA hS hR (Yld.move hS rfl) (by decide) ?_; clear hS; intro aa hS
    refine sA hS hR (Yld.extract hS rfl rfl) (by decide) ?_; clear hS; intro aa hS
    refine sA hS hR (Yld.extract hS rfl rfl) (by decide) ?_; clear hS; intro aa hS
    refine sA hS hR (Yld.assign hS rfl) (by decide) ?_; clear hS; intro aa hS
    refine sA hS hR (Yld.assign hS rfl) (by decide) ?_; clear hS; intro aa hS
    refine wpList_nil ?_
    refine hK285 _ _ ?_
    refine wp_seq_k ?_; intro K286 hK286
    refine wp_seq_k ?_; intro K287 hK287
    refine wp_region_lit ?_
    refine sA hS hR (Yld.move hS rfl) (by decide) ?_; clear hS; intro aa hS
    refine sA hS hR (Yld.not hS rfl) (by decide) ?_; clear hS; intro aa hS
    refine wpList_nil ?_
    refine hK287 _ _ ?_
    refine hS.splitB (t := 28) rfl ?_ ?_ <;> clear hS
    · intro hg hS
      have hre : rest = [] := by
        cases rest with
        | nil => rfl
        | cons s tl => simp [dirL] at hg
      have hdo : done = ord := by rw [← hI.2.1, hre, List.append_nil]
      refine condT hS rfl ?_
      refine wp_exit ?_
      refine hK279 _ _ ?_
      refine wp_seq_k ?_; intro K288 hK288
      refine wp_region_lit ?_
      refine sA hS hR (Yld.move hS rfl) (by decide) ?_; clear hS; intro aa hS
      refine sA hS hR (Yld.move hS rfl) (by decide) ?_; clear hS; intro aa hS
      refine sB (Bcall hS rfl Try.call14 (SameInts_ok hR (xs := cst done) (ys := cst ord) (hR.intsSls (r := r0) (by repeat (first | with_reducible exact Pk.here | with_reducible apply Pk.there))) (hR.intsSls (r := ra) (by repeat (first | with_reducible exact Pk.here | with_reducible apply Pk.there))) (by rw [hdo]; omega) (by omega)) (by decide) ?_); clear hS; intro aa ww vv hS hp
      clear hR
      obtain ⟨rfl, hR⟩ := hp
      replace hS := hS.sayB (t := 40) true rfl (by exact decide_eq_true (by rw [hdo]))
      refine sA hS hR (Yld.move hS rfl) (by decide) ?_; clear hS; intro aa hS
      refine sAg hS hR rfl rfl (Yld.move hS rfl) (by decide) ?_; clear hS; intro aa hS
      refine sBg hS rfl rfl (Bcall hS rfl Try.call15 (lrLen_ok (hR.pk (r := lruA _ _ _ _ _ _ _ _ _) (by repeat (first | with_reducible exact Pk.here | with_reducible apply Pk.there)))) (by decide) ?_); clear hS; intro aa ww vv hS hp
      clear hR
      obtain ⟨rfl, hR⟩ := hp
      rw [hre] at hS
      refine sAg hS hR rfl rfl (Yld.eql hS rfl rfl) (by decide) ?_; clear hS; intro aa hS
      replace hS := hS.sayB (t := 44) true rfl (by rfl)
      refine sA hS hR (Yld.pickT hS rfl rfl) (by decide) ?_; clear hS; intro aa hS
      refine sA hS hR (Yld.move hS rfl) (by decide) ?_; clear hS; intro aa hS
      refine sBg hS rfl rfl (Bcall hS rfl Try.call16 (awake_ok hR) (by decide) ?_); clear hS; intro aa ww vv hS hp
      clear hR
      obtain ⟨rfl, hR⟩ := hp
      refine sA hS hR (Yld.pickT hS rfl rfl) (by decide) ?_; clear hS; intro aa hS
      refine sA hS hR (Yld.assign hS rfl) (by decide) ?_; clear hS; intro aa hS
      refine wpList_nil ?_
      refine hK288 _ _ ?_
      refine wp_ret ?_
      repeat (first | with_reducible refine thenR ?_ | with_reducible refine blockR ?_ | with_reducible refine scopeR ?_)
      refine ret1 (fn := Try.f3) (e := .ret) (.inl rfl) Try.results3 hS hR ⟨_, (.tmp rfl), ?_⟩
      exact ⟨rfl, (hR.sub (by repeat (first | with_reducible exact Ex.refl | (with_reducible apply Ex.take; · repeat (first | with_reducible exact Pk.here | with_reducible apply Pk.there)) | with_reducible apply Ex.drop)))⟩
    · intro hg hS
      obtain ⟨s, tl, hst⟩ : ∃ s tl, rest = s :: tl := by
        cases rest with
        | nil => simp [dirL] at hg
        | cons s tl => exact ⟨s, tl, rfl⟩
      subst hst
      rw [show (dirL 0 (s :: tl)).head? = some s from rfl] at hS; (try dsimp only [optV, Option.getD, Option.isSome] at hS)
      have hs16 := hLI.lt s (by rw [← hI.2.1]; simp)
      have hcd := cst_len (l := done)
      have hdl : done.length ≤ ord.length := by rw [← hI.2.1, List.length_append]; omega
      refine condF hS rfl ?_
      refine wp_skip ?_
      refine hK286 _ _ ?_
      refine wp_seq_k ?_; intro K289 hK289
      refine wp_seq_k ?_; intro K290 hK290
      refine wp_region_lit ?_
      refine sA hS hR (Yld.move hS rfl) (by decide) ?_; clear hS; intro aa hS
      refine sA hS hR (Yld.move hS rfl) (by decide) ?_; clear hS; intro aa hS
      refine sB (Bcall hS rfl Try.call13 (lrOut_ok (i := (s : Int)) (hR.pk (r := lruA _ _ _ _ _ _ _ _ _) (by repeat (first | with_reducible exact Pk.here | with_reducible apply Pk.there)))) (by decide) ?_); clear hS; intro aa ww vv hS hp
      clear hR
      obtain ⟨rfl, hR⟩ := hp
      rw [lout_E hs16, if_pos List.mem_cons_self] at hS
      rw [lout_O hs16, List.erase_cons_head] at hR
      refine sA hS hR (Yld.neq hS rfl rfl) (by decide) ?_; clear hS; intro aa hS
      replace hS := hS.sayB (t := 32) false rfl (by decide)
      refine wpList_nil ?_
      refine hK290 _ _ ?_
      refine condF hS rfl ?_
      refine wp_skip ?_
      refine hK289 _ _ ?_
      refine wp_region_lit ?_
      refine sA hS hR (Yld.move hS rfl) (by decide) ?_; clear hS; intro aa hS
      refine sA hS hR (Yld.move hS rfl) (by decide) ?_; clear hS; intro aa hS
      refine sB (BbuildSlice hS hR rfl (bls27_1_0 _) (by decide) ?_); clear hS hR; intro aa ww bb35 hS hR
      refine sB (BappendR (sz := 1) hS hR rfl rfl Try.underlying27 info3 rfl rfl (by rfl) (by repeat (first | with_reducible exact Pk.here | with_reducible apply Pk.there)) (XC.one ((s : Int)) (by repeat (first | with_reducible exact Pk.here | with_reducible apply Pk.there)) (by rfl) rfl) (by intro _; rfl) (by show (_ + _) * 8 ≤ _; first | omega | (simp only [List.length_take, List.length_append, List.length_drop, List.length_cons, List.length_nil, List.length_map]; omega)) (by first | omega | (simp only [List.length_take, List.length_append, List.length_drop, List.length_cons, List.length_nil, List.length_map]; omega)) (by first | rfl | (simp; done) | (simp; omega)) (by decide) ?_); clear hS hR; intro aa ww r36 c36 hS hR
      rw [cst_snoc] at hS hR
      refine sA hS hR (Yld.assign hS rfl) (by decide) ?_; clear hS; intro aa hS
      refine wpList_nil ?_
      refine hK284 _ _ ?_
      refine wp_region_lit ?_
      refine sA hS hR ((by first | exact Yld.add64 hS rfl rfl (by omega) | exact Yld.add hS rfl rfl)) (by decide) ?_; clear hS; intro aa hS
      refine sA hS hR (Yld.move hS rfl) (by decide) ?_; clear hS; intro aa hS
      refine wpList_nil ?_
      
      refine ⟨(j + 1, done ++ [s], tl, _, _), ?_, ?_, hS.le (Le.cons rfl (Le.cons rfl (Le.nilapp (Le.cons rfl (Le.cons rfl (Le.nil _)))))), hR.sub (Ex.take (by repeat (first | with_reducible exact Pk.here | with_reducible apply Pk.there)) (Ex.take (by repeat (first | with_reducible exact Pk.here | with_reducible apply Pk.there)) (Ex.nilapp (by repeat (first | with_reducible exact Ex.refl | (with_reducible apply Ex.take; · repeat (first | with_reducible exact Pk.here | with_reducible apply Pk.there)) | with_reducible apply Ex.drop)))))⟩
      · exact ⟨by omega, by rw [← hI.2.1]; simp, by rw [List.length_append, hI.2.2]; rfl⟩
      · dsimp only; omega
  · intro hg hS
    have h9 := congrArg List.length hI.2.1
    rw [List.length_append] at h9
    omega
end Go.Proofs.Ytojeibjlkbffcaa.Sx
