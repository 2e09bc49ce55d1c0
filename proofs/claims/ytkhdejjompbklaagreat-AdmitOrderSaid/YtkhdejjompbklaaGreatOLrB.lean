/-
 
-/
import Derived.Test.YtkhdejjompbklaaGreatOLrA
namespace Go.Proofs.YtkhdejjompbklaaGreat.Sx
open Go
set_option maxRecDepth 20000
set_option linter.unusedVariables false
set_option linter.unusedSimpArgs false
theorem lreach_ok {q : Option Addr} {l : List HP} {w : World} (hR : Sep l w) : CallR Tryz.prog 110 [.pointer q] w (fun v w' => ∃ p1, v = .func (.func 135) #[] #[.pointer (some ⟨p1, 0, none⟩)] ∧ Sep (blk p1 [.pointer q] 54 :: l) w') := by
 refine enter Tryz.func110 rfl Tryz.ntmps110 (Nat.le_of_ble_eq_true rfl) ?_; intro aa hS
 refine wp_seq_k ?_; intro K448 hK448
 refine wp_region_lit ?_
 refine sB (Bbox hS hR rfl (by rfl) (by decide) ?_); clear hS hR; intro aa ww bb1 hS hR
 revert aa
 refine qN hR ?_
 intro aa hS
 refine wpList_nil ?_
 refine hK448 _ _ ?_
 refine wp_seq_k ?_; intro K449 hK449
 refine wp_region_lit ?_
 revert aa
 refine qA hR rfl (fun _ hS => Yld.makeFunc hS rfl rfl) ?_
 refine qN hR ?_
 intro aa hS
 refine wpList_nil ?_
 refine hK449 _ _ ?_
 refine wp_ret ?_
 repeat first | with_reducible refine thenR ?_ | with_reducible refine blockR ?_ | with_reducible refine scopeR ?_
 refine ret1 (fn := Tryz.f110) (e := .ret) (.inl rfl) Tryz.results110 hS hR ⟨_, (.tmp rfl), ?_⟩
 exact ⟨_, rfl, (hR.sub exQ)⟩
theorem each_it {S b bl c p1 L : Nat} {r : Option Addr} {ord : List Nat} {now : Int} {J : Nat → HP} {E : HP} {l : List HP} {w : World} (hR : Sep (J 0 :: blk p1 [.pointer (some ⟨b, 0, none⟩)] 54 :: l) w) (hWL : WL S 1 (one ord)) (hM : ∀ (i : Nat) (Y : List HP) (w : World), Sep (J i :: Y) w → ∃ Z, Sep (blk b [.pointer (some ⟨bl, 0, none⟩), .slice r S c, .int .i64 now] 125 :: linksA 183 180 3 bl S 1 (one ord) :: Z :: Y) w ∧ ∀ w', Sep (blk b [.pointer (some ⟨bl, 0, none⟩), .slice r S c, .int .i64 now] 125 :: linksA 183 180 3 bl S 1 (one ord) :: Z :: Y) w' → Sep (J i :: Y) w') (hY : ∀ (Y : List HP) (i : Nat) (w : World), i < ord.length → Sep (J i :: Y) w → YieldR Tryz.prog L [.int .i64 (((ord[i]?.getD 0) : Nat) : Int)] w (fun b w1 => Sep ((bif b then J (i + 1) else E) :: Y) w1)) : CallR Tryz.prog 135 [.func (.yield L) #[] #[], .pointer (some ⟨p1, 0, none⟩)] w (fun v w' => Sep (J ord.length :: blk p1 [.pointer (some ⟨b, 0, none⟩)] 54 :: l) w' ∨ Sep (E :: blk p1 [.pointer (some ⟨b, 0, none⟩)] 54 :: l) w') := by
 refine enterX Tryz.func135 rfl Tryz.ntmps135 (Nat.le_of_ble_eq_true rfl) ?_; intro aa hS
 obtain ⟨Z, hR, hback⟩ := hM 0 _ _ hR
 refine Go.wpIn_seq_k ?_; intro K450 hK450
 refine Go.wpIn_seq_k ?_; intro K451 hK451
 refine Go.wpIn_region_lit ?_
 refine xA hS hR (Yld.load1 hS rfl Tryz.underlying54 rfl rdQ) (by decide) ?_; clear hS; intro aa hS
 refine xB hS (Bcall hS rfl Tryz.call75 (lrsome_ok (hR.pk (r := blk b _ _) pkQ)) (by decide) ?_); clear hS; intro aa ww vv hS hp; refine ⟨hS.defers, ?_⟩
 clear hR
 obtain ⟨rfl, hR⟩ := hp
 refine xA hS hR (Yld.not hS rfl) (by decide) ?_; clear hS; intro aa hS
 refine Go.wpListIn_nil ?_
 refine hK451 _ _ ?_
 refine xcondF hS rfl ?_
 refine Go.wpIn_skip ?_
 refine hK450 _ _ ?_
 refine Go.wpIn_seq_k ?_; intro K452 hK452
 refine Go.wpIn_region_lit ?_
 refine xA hS hR (Yld.load1 hS rfl Tryz.underlying54 rfl rdQ) (by decide) ?_; clear hS; intro aa hS
 refine xA hS hR (Yld.nilCheck hS rfl) (by decide) ?_; clear hS; intro aa hS
 refine xA hS hR (Yld.fieldAddr hS rfl 0 Tryz.underlying125 rfl rfl info123 (by decide)) (by decide) ?_; clear hS; intro aa hS
 refine xA hS hR (Yld.load1 hS rfl Tryz.underlying123 rfl rdQ) (by decide) ?_; clear hS; intro aa hS
 refine xB hS (Bcall hS rfl Tryz.call94 (LFirst_ok (x := 0) (hR.pk (r := linksA _ _ _ _ _ _ _) pkQ)) (by decide) ?_); clear hS; intro aa ww vv hS hp; refine ⟨hS.defers, ?_⟩
 clear hR
 obtain ⟨rfl, hR⟩ := hp
 rw [one_first] at hS; dsimp only [optV] at hS; rw [isSome_get] at hS
 refine xA hS hR (Yld.move hS rfl) (by decide) ?_; clear hS; intro aa hS
 refine xA hS hR (Yld.extract hS rfl rfl) (by decide) ?_; clear hS; intro aa hS
 refine xA hS hR (Yld.extract hS rfl rfl) (by decide) ?_; clear hS; intro aa hS
 refine xA hS hR (Yld.assign hS rfl) (by decide) ?_; clear hS; intro aa hS
 refine xA hS hR (Yld.assign hS rfl) (by decide) ?_; clear hS; intro aa hS
 refine Go.wpListIn_nil ?_
 refine hK452 _ _ ?_
 refine Go.wpIn_block ?_
 replace hR := hback _ (hR.sub exQ)
 replace hR := hR.pk (r := J 0) pkQ
 refine xloopI (X := Nat) [(0, _), (1, _)] (fun x => [(3, .int .i64 (((ord[x]?.getD 0) : Nat) : Int)), (4, .bool (decide (x < ord.length)))]) (fun x => [J x]) _ (fun x => x ≤ ord.length) (fun x => ord.length - x) 0 (Nat.zero_le _) (hS.le (Le.cons rfl (Le.cons rfl (Le.nilapp (Le.cons rfl (Le.cons rfl (Le.nil _))))))) hR ?_
 clear hS hR; rintro i aa ww hI hS hR; dsimp only [List.cons_append, List.nil_append] at hI hS hR
 refine Go.wpIn_seq_k ?_; intro K454 hK454
 refine Go.wpIn_seq_k ?_; intro K455 hK455
 refine Go.wpIn_region_lit ?_
 refine xA hS hR (Yld.move hS rfl) (by decide) ?_; clear hS; intro aa hS
 refine Go.wpListIn_nil ?_
 refine hK455 _ _ ?_
 refine hS.splitB (t := 16) rfl ?_ ?_ <;> clear hS
 ·
  intro hg hS
  have hi : i < ord.length := hg
  refine xcondT hS rfl ?_
  refine Go.wpIn_skip ?_
  refine hK454 _ _ ?_
  refine Go.wpIn_seq_k ?_; intro K456 hK456
  refine Go.wpIn_block ?_
  refine Go.wpIn_seq_k ?_; intro K457 hK457
  refine Go.wpIn_region_lit ?_
  refine xA hS hR (Yld.move hS rfl) (by decide) ?_; clear hS; intro aa hS
  refine xA hS hR (Yld.move hS rfl) (by decide) ?_; clear hS; intro aa hS
  refine xY hS rfl rfl (hY _ i _ hi (hR.pk (r := J i) pkQ)) (by decide) ?_; clear hS hR; intro aa ww bb hS hR
  refine hS.splitB (t := 28) rfl ?_ ?_ <;> clear hS
  ·
   intro hg hS
   subst hg
   dsimp only [cond] at hR
   obtain ⟨Z, hR, hback⟩ := hM (i + 1) _ _ (hR.pk (r := J (i + 1)) pkQ)
   refine xA hS hR (Yld.not hS rfl) (by decide) ?_; clear hS; intro aa hS
   refine Go.wpListIn_nil ?_
   refine hK457 _ _ ?_
   refine xcondF hS rfl ?_
   refine Go.wpIn_skip ?_
   refine hK456 _ _ ?_
   refine Go.wpIn_region_lit ?_
   refine xA hS hR (Yld.load1 hS rfl Tryz.underlying54 rfl rdQ) (by decide) ?_; clear hS; intro aa hS
   refine xA hS hR (Yld.nilCheck hS rfl) (by decide) ?_; clear hS; intro aa hS
   refine xA hS hR (Yld.fieldAddr hS rfl 0 Tryz.underlying125 rfl rfl info123 (by decide)) (by decide) ?_; clear hS; intro aa hS
   refine xA hS hR (Yld.load1 hS rfl Tryz.underlying123 rfl rdQ) (by decide) ?_; clear hS; intro aa hS
   refine xA hS hR (Yld.move hS rfl) (by decide) ?_; clear hS; intro aa hS
   refine xB hS (Bcall hS rfl Tryz.call136 (LNext_ok (hR.pk (r := linksA _ _ _ _ _ _ _) pkQ)) (by decide) ?_); clear hS; intro aa ww vv hS hp; refine ⟨hS.defers, ?_⟩
   clear hR
   obtain ⟨rfl, hR⟩ := hp
   rw [one_next hWL hi] at hS; dsimp only [optV] at hS; rw [isSome_get] at hS
   refine xA hS hR (Yld.move hS rfl) (by decide) ?_; clear hS; intro aa hS
   refine xA hS hR (Yld.extract hS rfl rfl) (by decide) ?_; clear hS; intro aa hS
   refine xA hS hR (Yld.extract hS rfl rfl) (by decide) ?_; clear hS; intro aa hS
   refine xA hS hR (Yld.assign hS rfl) (by decide) ?_; clear hS; intro aa hS
   refine xA hS hR (Yld.assign hS rfl) (by decide) ?_; clear hS; intro aa hS
   refine Go.wpListIn_nil ?_
   replace hR := hback _ (hR.sub exQ)
   refine ⟨i + 1, ?_, ?_, hasW (hS.le (Le.cons rfl (Le.cons rfl (Le.nilapp (Le.cons rfl (Le.cons rfl (Le.nil _))))))), hR.sub (Ex.take pkQ (Ex.nilapp exQ))⟩
   ·
    omega
   ·
    omega
  ·
   intro hg hS
   subst hg
   dsimp only [cond] at hR
   refine xA hS hR (Yld.not hS rfl) (by decide) ?_; clear hS; intro aa hS
   refine Go.wpListIn_nil ?_
   refine hK457 _ _ ?_
   refine xcondT hS rfl ?_
   refine Go.wpIn_ret ?_
   repeat first | with_reducible refine thenR ?_ | with_reducible refine blockR ?_ | with_reducible refine scopeR ?_
   refine xretN (fn := Tryz.f135) (e := .ret) [] rfl (.inl rfl) Tryz.results135 hS hR ?_; clear hR; intro ww hR; refine ⟨_, .nil, rfl, ?_⟩
   first | (refine .inl (hR.sub ?_); (repeat (first | with_reducible exact Ex.refl | (with_reducible apply Ex.take; · repeat (first | with_reducible exact Pk.here | with_reducible apply Pk.there)) | with_reducible apply Ex.drop)); done) | (refine .inr (hR.sub ?_); (repeat (first | with_reducible exact Ex.refl | (with_reducible apply Ex.take; · repeat (first | with_reducible exact Pk.here | with_reducible apply Pk.there)) | with_reducible apply Ex.drop)); done)
 ·
  intro hg hS
  have hi2 : i = ord.length := by omega
  subst hi2
  refine xcondF hS rfl ?_
  refine Go.wpIn_exit ?_
  repeat (first | with_reducible refine thenX ?_ | with_reducible refine blockX ?_ | with_reducible refine blockY (by rfl) ?_)
  refine xretN (fn := Tryz.f135) (e := .normal) [] rfl (.inr rfl) Tryz.results135 hS hR ?_; clear hR; intro ww hR; refine ⟨_, .nil, rfl, ?_⟩
  first | (refine .inl (hR.sub ?_); (repeat (first | with_reducible exact Ex.refl | (with_reducible apply Ex.take; · repeat (first | with_reducible exact Pk.here | with_reducible apply Pk.there)) | with_reducible apply Ex.drop)); done) | (refine .inr (hR.sub ?_); (repeat (first | with_reducible exact Ex.refl | (with_reducible apply Ex.take; · repeat (first | with_reducible exact Pk.here | with_reducible apply Pk.there)) | with_reducible apply Ex.drop)); done)
end Go.Proofs.YtkhdejjompbklaaGreat.Sx
