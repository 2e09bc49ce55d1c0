/-
  
-/
import Derived.Test.YtcokognhodjfgaaLxA
import Derived.Test.YtcokognhodjfgaaArgs2
namespace Go.Proofs.Ytcokognhodjfgaa.Sx
open Go
set_option linter.unusedVariables false
set_option linter.unusedSimpArgs false

theorem info5 : Try.prog.info? 5 = some Try.t5 := by kernel_rfl

set_option maxHeartbeats 2000000 in
set_option maxRecDepth 20000 in
theorem put14_ok {W : World} {q : Option Addr} {n c : Nat} {xs : List (List Int)} (A1 : ArgS W [.u8] q n c xs) {nn : Nat} {l : List HP} {w : World} (hR : Sep (old W :: l) w) (h1 : 1 ≤ nn) (h2 : nn ≤ 4096) : CallR Try.prog 9 [.slice q n c, .int .i64 (nn : Int)] w (fun v w' => ∃ b, v = .tuple [.pointer (some ⟨b, 0, none⟩), .int .i64 ((S9 n : Nat) : Int), .bool true].toArray ∧ Sep (linksA 54 65 3 b (S9 n) nn (putL xs nn (min n 20)) :: old W :: l) w') := by
  refine enter Try.func9 rfl Try.ntmps9 (Nat.le_of_ble_eq_true rfl) ?_; intro aa hS
  have hcap := A1.cap
  have hS9 : 1 ≤ S9 n ∧ S9 n ≤ 20 ∧ min n 20 ≤ S9 n := by unfold S9; omega
  refine wp_seq_k ?_; intro K207 hK207
  refine wp_region_lit ?_
  refine sA hS hR (Yld.assign hS rfl) (by decide) ?_; clear hS; intro aa hS
  refine sA hS hR (Yld.assign hS rfl) (by decide) ?_; clear hS; intro aa hS
  refine sA hS hR (Yld.assign hS rfl) (by decide) ?_; clear hS; intro aa hS
  refine wpList_nil ?_
  refine hK207 _ _ ?_
  refine wp_seq_k ?_; intro K208 hK208
  refine wp_region_lit ?_
  refine sA hS hR (Yld.move hS rfl) (by decide) ?_; clear hS; intro aa hS
  refine sA hS hR (Yld.len hS rfl Try.underlying22) (by decide) ?_; clear hS; intro aa hS
  refine sA hS hR (Yld.min hS rfl rfl) (by decide) ?_; clear hS; intro aa hS
  refine sA hS hR (Yld.max hS rfl rfl) (by decide) ?_; clear hS; intro aa hS
  replace hS := hS.say (t := 16) (.int .i64 ((S9 n : Nat) : Int)) rfl (by rw [show ((S9 n : Nat) : Int) = max (min (n : Int) 20) 1 from by unfold S9; omega])
  refine sA hS hR (Yld.assign hS rfl) (by decide) ?_; clear hS; intro aa hS
  refine wpList_nil ?_
  refine hK208 _ _ ?_
  refine wp_seq_k ?_; intro K209 hK209
  refine wp_region_lit ?_
  refine sA hS hR (Yld.move hS rfl) (by decide) ?_; clear hS; intro aa hS
  refine sA hS hR (Yld.move hS rfl) (by decide) ?_; clear hS; intro aa hS
  refine sB (Bcall hS rfl Try.call19 (LNew_ok (S := S9 n) (n := nn) hR (by omega) (by omega) (by omega) (by omega)) (by decide) ?_); clear hS; intro aa ww vv hS hp
  clear hR
  obtain ⟨b, rfl, hR⟩ := hp
  refine sA hS hR (Yld.move hS rfl) (by decide) ?_; clear hS; intro aa hS
  refine sA hS hR (Yld.extract hS rfl rfl) (by decide) ?_; clear hS; intro aa hS
  refine sA hS hR (Yld.extract hS rfl rfl) (by decide) ?_; clear hS; intro aa hS
  refine sA hS hR (Yld.assign hS rfl) (by decide) ?_; clear hS; intro aa hS
  refine sA hS hR (Yld.assign hS rfl) (by decide) ?_; clear hS; intro aa hS
  refine wpList_nil ?_
  refine hK209 _ _ ?_
  refine wp_seq_k ?_; intro K210 hK210
  refine wp_seq_k ?_; intro K211 hK211
  refine wp_region_lit ?_
  refine sA hS hR (Yld.move hS rfl) (by decide) ?_; clear hS; intro aa hS
  refine sA hS hR (Yld.neq hS rfl rfl) (by decide) ?_; clear hS; intro aa hS
  replace hS := hS.sayB (t := 24) false rfl (by simp)
  refine sA hS hR (Yld.move hS rfl) (by decide) ?_; clear hS; intro aa hS
  refine sAg hS hR rfl rfl (Yld.move hS rfl) (by decide) ?_; clear hS; intro aa hS
  refine sAg hS hR rfl rfl (Yld.eqlNil hS rfl rfl Try.underlying23) (by decide) ?_; clear hS; intro aa hS
  replace hS := hS.sayB (t := 27) false rfl (by rfl)
  refine sA hS hR (Yld.pickF hS rfl rfl) (by decide) ?_; clear hS; intro aa hS
  refine wpList_nil ?_
  refine hK211 _ _ ?_
  refine condF hS rfl ?_
  refine wp_skip ?_
  refine hK210 _ _ ?_
  refine wp_seq_k ?_; intro K212 hK212
  refine wp_seq_k ?_; intro K213 hK213
  refine wp_region_lit ?_
  refine sA hS hR (Yld.move hS rfl) (by decide) ?_; clear hS; intro aa hS
  refine sA hS hR (Yld.move hS rfl) (by decide) ?_; clear hS; intro aa hS
  refine sA hS hR (Yld.len hS rfl Try.underlying22) (by decide) ?_; clear hS; intro aa hS
  refine sA hS hR (Yld.min hS rfl rfl) (by decide) ?_; clear hS; intro aa hS
  refine sA hS hR (Yld.sliceHi hS rfl rfl Try.underlying22 info5 (by omega) (by omega)) (by decide) ?_; clear hS; intro aa hS
  obtain ⟨mm, hmm0, hmm1⟩ : ∃ y : Nat, (Min.min (n : Int) 20).toNat = y ∧ y ≤ n ∧ y ≤ 20 := ⟨_, rfl, by omega, by omega⟩
  replace hS := hS.say (t := 33) (.slice q mm c) rfl (by rw [hmm0])
  have hmm : mm = min n 20 := by omega
  refine sA hS hR (Yld.len hS rfl Try.underlying22) (by decide) ?_; clear hS; intro aa hS
  refine sA hS hR (Yld.move hS rfl) (by decide) ?_; clear hS; intro aa hS
  refine wpList_nil ?_
  refine hK213 _ _ ?_
  refine wp_block ?_
  replace hR := hR.pk (r := linksA 54 65 3 b (S9 n) nn (fun _ => [])) (by repeat (first | with_reducible exact Pk.here | with_reducible apply Pk.there))
  refine loopI (X := Nat) [(1, _), (7, _), (8, _), (33, _), (34, _)] (fun x => [(35, .int .i64 (x : Int))]) (fun x => [linksA 54 65 3 b (S9 n) nn (putL xs nn x)]) _ (fun x => x ≤ mm) (fun x => mm - x) 0 (Nat.zero_le _) (hS.le (Le.cons rfl (Le.nilapp (Le.cons rfl (Le.cons rfl (Le.cons rfl (Le.cons rfl (Le.cons rfl (Le.nil _))))))))) hR ?_
  clear hS hR; rintro k aa ww hI hS hR; dsimp only [List.cons_append, List.nil_append] at hI hS hR
  refine wp_seq_k ?_; intro K215 hK215
  refine wp_region_lit ?_
  refine sA hS hR (Yld.lss hS rfl rfl) (by decide) ?_; clear hS; intro aa hS
  refine wpList_nil ?_
  refine hK215 _ _ ?_
  refine wp_seq_k ?_; intro K216 hK216
  refine hS.splitB (t := 36) rfl ?_ ?_ <;> clear hS
  · intro hg hS
    refine condT hS rfl ?_
    refine wp_skip ?_
    refine hK216 _ _ ?_
    refine wp_seq_k ?_; intro K217 hK217
    refine wp_block ?_
    refine wp_seq_k ?_; intro K218 hK218
    refine wp_region_lit ?_
    refine sA hS hR (Yld.move hS rfl) (by decide) ?_; clear hS; intro aa hS
    obtain ⟨ba, ia, ns, hq, hx, hl, hw, hc⟩ := A1.at (k := k) (by omega)
    obtain ⟨s0, rfl⟩ := len1 hl
    subst hq
    have hs0 : 0 ≤ s0 ∧ s0 ≤ 255 := hw.1
    refine sA hS hR ((by first | exact Yld.indexH (sz := 1) (_) hS rfl rfl Try.underlying22 info5 (by assumption) rfl (by first | rfl | omega) (by omega) | exact Yld.indexL (sz := 1) (_) hS rfl rfl Try.underlying22 info5 (by repeat (first | with_reducible exact Pk.here | with_reducible apply Pk.there)) rfl (by first | rfl | omega) (by omega) | exact Yld.indexB (sz := 1) (_) hS rfl rfl Try.underlying22 info5 rfl (by first | rfl | omega) (by omega) | exact Yld.indexSlice hS rfl rfl Try.underlying22 info5 (by omega) (by omega))) (by decide) ?_; clear hS; intro aa hS
    refine sA hS hR (Yld.load1 hS rfl Try.underlying5 rfl (Rds.rd (Rds.at (Rds.old (by repeat (first | with_reducible exact Pk.here | with_reducible apply Pk.there)) hc) (by rfl)) (by rfl))) (by decide) ?_; clear hS; intro aa hS
    refine sA hS hR (Yld.assign hS rfl) (by decide) ?_; clear hS; intro aa hS
    refine sA hS hR (Yld.assign hS rfl) (by decide) ?_; clear hS; intro aa hS
    refine wpList_nil ?_
    refine hK218 _ _ ?_
    refine wp_seq_k ?_; intro K219 hK219
    refine wp_region_lit ?_
    refine sA hS hR (Yld.move hS rfl) (by decide) ?_; clear hS; intro aa hS
    refine sA hS hR ((by first | exact Yld.to (Yld.convInt hS rfl rfl Try.underlying3) (congrArg (Value.int .i64) (IntWalk.i64_in _ (by omega))) | exact Yld.convInt hS rfl rfl Try.underlying3)) (by decide) ?_; clear hS; intro aa hS
    refine sA hS hR (Yld.move hS rfl) (by decide) ?_; clear hS; intro aa hS
    refine sA hS hR ((by first | exact Yld.add64 hS rfl rfl (by omega) | exact Yld.add hS rfl rfl)) (by decide) ?_; clear hS; intro aa hS
    refine sA hS hR ((by first | exact Yld.rem64 hS rfl rfl (by omega) | exact Yld.rem hS rfl rfl (by omega))) (by decide) ?_; clear hS; intro aa hS
    obtain ⟨kk, hkk, hkl⟩ := emod_nat (n := s0) (d := (nn : Int) + 1) (m := nn + 1) rfl (by omega)
    have hkO : kOf xs nn k = kk := by unfold kOf; rw [hx]; show (s0 % ((nn : Int) + 1)).toNat = kk; rw [hkk]; rfl
    replace hS := hS.say (t := 44) (.int .i64 (kk : Int)) rfl (by rw [hkk])
    refine sA hS hR (Yld.assign hS rfl) (by decide) ?_; clear hS; intro aa hS
    refine wpList_nil ?_
    refine hK219 _ _ ?_
    refine wp_seq_k ?_; intro K220 hK220
    refine wp_region_lit ?_
    refine sA hS hR (Yld.move hS rfl) (by decide) ?_; clear hS; intro aa hS
    refine sA hS hR (Yld.move hS rfl) (by decide) ?_; clear hS; intro aa hS
    refine sA hS hR (Yld.lss hS rfl rfl) (by decide) ?_; clear hS; intro aa hS
    refine sA hS hR (Yld.move hS rfl) (by decide) ?_; clear hS; intro aa hS
    refine hS.splitB (t := 48) rfl ?_ ?_ <;> clear hS
    · intro hg hS
      replace hg : kk < nn := by omega
      refine sAg hS hR rfl rfl (Yld.move hS rfl) (by decide) ?_; clear hS; intro aa hS
      refine sAg hS hR rfl rfl (Yld.move hS rfl) (by decide) ?_; clear hS; intro aa hS
      refine sAg hS hR rfl rfl (Yld.move hS rfl) (by decide) ?_; clear hS; intro aa hS
      refine sBg hS rfl rfl (Bcall hS rfl Try.call17 (LBack_ok (x := (kk : Int)) (y := (k : Int)) (hR.pk (r := linksA _ _ _ _ _ _ _) (by repeat (first | with_reducible exact Pk.here | with_reducible apply Pk.there)))) (by decide) ?_); clear hS; intro aa ww vv hS hp
      clear hR
      obtain ⟨rfl, hR⟩ := hp
      rw [addE_new hg (by omega) putL_no] at hS
      rw [addS_new hg (by omega) putL_no, ← putL_yes hkO hg] at hR
      refine sAg hS hR rfl rfl (Yld.neq hS rfl rfl) (by decide) ?_; clear hS; intro aa hS
      replace hS := hS.sayB (t := 53) false rfl (by simp)
      refine sA hS hR (Yld.pickT hS rfl rfl) (by decide) ?_; clear hS; intro aa hS
      refine wpList_nil ?_
      refine hK220 _ _ ?_
      refine condF hS rfl ?_
      refine wp_skip ?_
      refine hK217 _ _ ?_
      refine wp_region_lit ?_
      refine sA hS hR ((by first | exact Yld.add64 hS rfl rfl (by omega) | exact Yld.add hS rfl rfl)) (by decide) ?_; clear hS; intro aa hS
      refine sA hS hR (Yld.move hS rfl) (by decide) ?_; clear hS; intro aa hS
      refine wpList_nil ?_
      
      refine ⟨k + 1, ?_, ?_, hS.le (Le.cons rfl (Le.nilapp (Le.cons rfl (Le.cons rfl (Le.cons rfl (Le.cons rfl (Le.cons rfl (Le.nil _)))))))), hR.sub (Ex.take (by repeat (first | with_reducible exact Pk.here | with_reducible apply Pk.there)) (Ex.nilapp (by repeat (first | with_reducible exact Ex.refl | (with_reducible apply Ex.take; · repeat (first | with_reducible exact Pk.here | with_reducible apply Pk.there)) | with_reducible apply Ex.drop))))⟩
      · omega
      · omega
    · intro hg hS
      have hno : ¬ kk < nn := by omega
      refine sSkip hS rfl rfl rfl (by decide) ?_; clear hS; intro aa hS
      refine sSkip hS rfl rfl rfl (by decide) ?_; clear hS; intro aa hS
      refine sSkip hS rfl rfl rfl (by decide) ?_; clear hS; intro aa hS
      refine sSkip hS rfl rfl rfl (by decide) ?_; clear hS; intro aa hS
      refine sSkip hS rfl rfl rfl (by decide) ?_; clear hS; intro aa hS
      refine sA hS hR (Yld.pickF hS rfl rfl) (by decide) ?_; clear hS; intro aa hS
      refine wpList_nil ?_
      refine hK220 _ _ ?_
      refine condF hS rfl ?_
      refine wp_skip ?_
      refine hK217 _ _ ?_
      refine wp_region_lit ?_
      refine sA hS hR ((by first | exact Yld.add64 hS rfl rfl (by omega) | exact Yld.add hS rfl rfl)) (by decide) ?_; clear hS; intro aa hS
      refine sA hS hR (Yld.move hS rfl) (by decide) ?_; clear hS; intro aa hS
      refine wpList_nil ?_
      rw [← putL_not hkO hno] at hR
      refine ⟨k + 1, ?_, ?_, hS.le (Le.cons rfl (Le.nilapp (Le.cons rfl (Le.cons rfl (Le.cons rfl (Le.cons rfl (Le.cons rfl (Le.nil _)))))))), hR.sub (Ex.take (by repeat (first | with_reducible exact Pk.here | with_reducible apply Pk.there)) (Ex.nilapp (by repeat (first | with_reducible exact Ex.refl | (with_reducible apply Ex.take; · repeat (first | with_reducible exact Pk.here | with_reducible apply Pk.there)) | with_reducible apply Ex.drop))))⟩
      · omega
      · omega
  · intro hg hS
    refine condF hS rfl ?_
    refine wp_exit ?_
    refine hK212 _ _ ?_
    refine wp_seq_k ?_; intro K221 hK221
    refine wp_region_lit ?_
    refine sA hS hR (Yld.move hS rfl) (by decide) ?_; clear hS; intro aa hS
    refine sA hS hR (Yld.move hS rfl) (by decide) ?_; clear hS; intro aa hS
    refine sA hS hR (Yld.assign hS rfl) (by decide) ?_; clear hS; intro aa hS
    refine sA hS hR (Yld.assign hS rfl) (by decide) ?_; clear hS; intro aa hS
    refine sA hS hR (Yld.assign hS rfl) (by decide) ?_; clear hS; intro aa hS
    refine wpList_nil ?_
    refine hK221 _ _ ?_
    refine wp_ret ?_
    repeat (first | with_reducible refine thenR ?_ | with_reducible refine blockR ?_ | with_reducible refine scopeR ?_)
    refine retN (fn := Try.f9) (e := .ret) (.inl rfl) Try.results9 hS hR ⟨_, .cons (.tmp rfl) (.cons (.tmp rfl) (.cons (.tmp rfl) (.nil))), rfl, ?_⟩
    obtain rfl : k = min n 20 := by omega
    exact ⟨_, rfl, (hR.sub (by repeat (first | with_reducible exact Ex.refl | (with_reducible apply Ex.take; · repeat (first | with_reducible exact Pk.here | with_reducible apply Pk.there)) | with_reducible apply Ex.drop)))⟩
end Go.Proofs.Ytcokognhodjfgaa.Sx
