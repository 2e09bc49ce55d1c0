/-
 
-/
import Derived.Test.YtkhdejjompbklaaGreatOLkD
namespace Go.Proofs.YtkhdejjompbklaaGreat.Sx
open Go
set_option maxRecDepth 20000
set_option linter.unusedVariables false
set_option linter.unusedSimpArgs false
theorem lwalk_ok {x y : Int} {q : Option Addr} {l : List HP} {w : World} (hR : Sep l w) : CallR Tryz.prog 132 [.pointer q, .int .i64 x, .int .i64 y] w (fun v w' => ∃ p1 p2 p3, v = .func (.func 142) #[] #[.pointer (some ⟨p1, 0, none⟩), .pointer (some ⟨p2, 0, none⟩), .pointer (some ⟨p3, 0, none⟩)] ∧ Sep (blk p1 [.pointer q] 123 :: blk p2 [.int .i64 x] 3 :: blk p3 [.int .i64 y] 3 :: l) w') := by
 refine enter Tryz.func132 rfl Tryz.ntmps132 (Nat.le_of_ble_eq_true rfl) ?_; intro aa hS
 refine wp_seq_k ?_; intro K283 hK283
 refine wp_region_lit ?_
 refine sB (Bbox hS hR rfl (by rfl) (by decide) ?_); clear hS hR; intro aa ww bb3 hS hR
 refine sB (Bbox hS hR rfl (by rfl) (by decide) ?_); clear hS hR; intro aa ww bb4 hS hR
 refine sB (Bbox hS hR rfl (by rfl) (by decide) ?_); clear hS hR; intro aa ww bb5 hS hR
 revert aa
 refine qN hR ?_
 intro aa hS
 refine wpList_nil ?_
 refine hK283 _ _ ?_
 refine wp_seq_k ?_; intro K284 hK284
 refine wp_region_lit ?_
 revert aa
 refine qA hR rfl (fun _ hS => Yld.makeFunc hS rfl rfl) ?_
 refine qN hR ?_
 intro aa hS
 refine wpList_nil ?_
 refine hK284 _ _ ?_
 refine wp_ret ?_
 repeat first | with_reducible refine thenR ?_ | with_reducible refine blockR ?_ | with_reducible refine scopeR ?_
 refine ret1 (fn := Tryz.f132) (e := .ret) (.inl rfl) Tryz.results132 hS hR ⟨_, (.tmp rfl), ?_⟩
 exact ⟨_, _, _, rfl, (hR.sub exQ)⟩
theorem walk_it {S n : Nat} {b : Nat} {r1 r2 r3 r4 : Option Addr} {c1 c2 c3 c4 : Nat} {l : List HP} {w : World} {P : Nat → Nat → Nat} {R : Nat → Int} {M : List Nat} {rv w9 p1 p2 p3 L : Nat} {J : Nat → HP} {E : HP} (hR : Sep (J 0 :: blk p1 [.pointer (some ⟨b, 0, none⟩)] 123 :: blk p2 [.int .i64 (rv : Int)] 3 :: blk p3 [.int .i64 (w9 : Int)] 3 :: l) w) (hb1 : Bk r1) (hSn : S + n ≤ 12288) (hw : w9 < 2) (hm0 : P w9 (S + rv) = (M[0]?.getD (S + rv))) (hms : ∀ i : Nat, i < M.length → P w9 (M[i]?.getD (S + rv)) = (M[i + 1]?.getD (S + rv))) (hmb : ∀ i : Nat, (M[i]?.getD (S + rv)) < S + n) (hme : ∀ i : Nat, i < M.length → (M[i]?.getD (S + rv)) ≠ S + rv) (hM : ∀ (i : Nat) (Y : List HP) (w : World), Sep (J i :: Y) w → ∃ Z, Sep (blk b [.slice r1 (S + n) c1, .int .i64 (S : Int), .slice r2 n c2, .slice r3 n c3, .slice r4 n c4] 183 :: sls r1 (S + n) c1 180 3 ((nods (S + n) P R).flatMap eL) :: Z :: Y) w ∧ ∀ w', Sep (blk b [.slice r1 (S + n) c1, .int .i64 (S : Int), .slice r2 n c2, .slice r3 n c3, .slice r4 n c4] 183 :: sls r1 (S + n) c1 180 3 ((nods (S + n) P R).flatMap eL) :: Z :: Y) w' → Sep (J i :: Y) w') (hY : ∀ (Y : List HP) (i : Nat) (w : World), i < M.length → Sep (J i :: Y) w → YieldR Tryz.prog L [.int .i64 (((M[i]?.getD (S + rv)) : Nat) : Int)] w (fun b w1 => Sep ((bif b then J (i + 1) else E) :: Y) w1)) : CallR Tryz.prog 142 [.func (.yield L) #[] #[], .pointer (some ⟨p1, 0, none⟩), .pointer (some ⟨p2, 0, none⟩), .pointer (some ⟨p3, 0, none⟩)] w (fun v w' => Sep (J M.length :: blk p1 [.pointer (some ⟨b, 0, none⟩)] 123 :: blk p2 [.int .i64 (rv : Int)] 3 :: blk p3 [.int .i64 (w9 : Int)] 3 :: l) w' ∨ Sep (E :: blk p1 [.pointer (some ⟨b, 0, none⟩)] 123 :: blk p2 [.int .i64 (rv : Int)] 3 :: blk p3 [.int .i64 (w9 : Int)] 3 :: l) w') := by
 refine enterX Tryz.func142 rfl Tryz.ntmps142 (Nat.le_of_ble_eq_true rfl) ?_; intro aa hS
 obtain ⟨Z, hR, hback⟩ := hM 0 _ _ hR
 have hb9 := hmb 0
 have hb8 : S + rv < S + n := by have := hmb M.length; rw [List.getElem?_eq_none (Nat.le_refl _)] at this; exact this
 refine Go.wpIn_seq_k ?_; intro K285 hK285
 refine xdrawn krQ krQ hS hR Ex.refl ?_; clear hR; intro ww hR hR0
 revert aa
 refine eA 0 rfl krQ (fun _ _ _ h => h) hR0 rfl (fun _ hS => Yld.load1 hS rfl Tryz.underlying123 rfl rdQ) ?_
 refine eA 1 rfl krQ (fun _ _ _ h => h) hR0 rfl (fun _ hS => Yld.nilCheck hS rfl) ?_
 refine eA 2 rfl krQ (fun _ _ _ h => h) hR0 rfl (fun _ hS => Yld.fieldAddr hS rfl 1 Tryz.underlying183 rfl rfl info3 (by decide)) ?_
 refine eA 3 rfl krQ (fun _ _ _ h => h) hR0 rfl (fun _ hS => Yld.load1 hS rfl Tryz.underlying3 rfl rdQ) ?_
 refine eA 4 rfl krQ (fun _ _ _ h => h) hR0 rfl (fun _ hS => Yld.load1 hS rfl Tryz.underlying3 rfl rdQ) ?_
 intro aa hS
 refine dA 5 rfl krQ krQ krQ (fun _ _ _ h => h) hS hR0 adQ (by decide) ?_; clear hS; intro aa hS
 replace hS := hS.say (t := 12) (.int .i64 ((S + rv : Nat) : Int)) rfl (by rw [Int.natCast_add])
 revert aa
 refine eA 6 rfl krQ (fun _ _ _ h => h) hR0 rfl (fun _ hS => Yld.assign hS rfl) ?_
 intro aa hS
 refine wpAnyH_done krQ ?_ _; clear hR0; refine ⟨by simp, hS.defers, ?_⟩
 refine hK285 _ _ ?_
 refine Go.wpIn_seq_k ?_; intro K286 hK286
 refine xdrawn krQ krQ hS hR Ex.refl ?_; clear hR; intro ww hR hR0
 revert aa
 refine eA 0 rfl krQ (fun _ _ _ h => h) hR0 rfl (fun _ hS => Yld.load1 hS rfl Tryz.underlying123 rfl rdQ) ?_
 refine eA 1 rfl krQ (fun _ _ _ h => h) hR0 rfl (fun _ hS => Yld.nilCheck hS rfl) ?_
 refine eA 2 rfl krQ (fun _ _ _ h => h) hR0 rfl (fun _ hS => Yld.fieldAddr hS rfl 0 Tryz.underlying183 rfl rfl info181 (by decide)) ?_
 refine eA 3 rfl krQ (fun _ _ _ h => h) hR0 rfl (fun _ hS => Yld.load1 hS rfl Tryz.underlying181 rfl rdQ) ?_
 refine eA 4 rfl krQ (fun _ _ _ h => h) hR0 rfl (fun _ hS => Yld.move hS rfl) ?_
 refine eA 5 rfl krQ (fun _ _ _ h => h) hR0 rfl (fun _ hS => Yld.load1 hS rfl Tryz.underlying3 rfl rdQ) ?_
 refine eA 6 rfl krQ (fun _ _ _ h => h) hR0 rfl (fun _ hS => ihQ 3 (S + rv) Tryz.underlying181 info180) ?_
 refine eA 7 rfl krQ (fun _ _ _ h => h) hR0 rfl (fun _ hS => Yld.fieldAddr hS rfl 0 Tryz.underlying180 rfl rfl info178 (by decide)) ?_
 refine eA 8 rfl krQ (fun _ _ _ h => h) hR0 rfl (fun _ hS => Yld.to (u := .pointer (some ⟨blkOf r1, (S + rv) * 3 + w9, none⟩)) (Yld.indexArr hS rfl rfl Tryz.underlying178 info3 (by omega) (by omega)) (by have h1 : (Tryz.t3).size = 1 := rfl; rw [h1]; congr 3 <;> omega)) ?_
 refine eA 9 rfl krQ (fun _ _ _ h => h) hR0 rfl (fun _ hS => Yld.load1 hS rfl Tryz.underlying3 rfl (Rd.rec (k := (S + rv)) (j := w9) (v := .int .i64 ((P w9 (S + rv) : Nat) : Int)) (xs := nods (S + n) P R) pkQ (by intro _; rfl) (by rw [nods_len]; omega) (by rw [nods_get]; exact eL_get (r := (fun d => ((P d (S + rv) : Nat) : Int), R (S + rv))) (by omega)))) ?_
 intro aa hS
 rw [hm0] at hS
 revert aa
 refine eA 10 rfl krQ (fun _ _ _ h => h) hR0 rfl (fun _ hS => Yld.assign hS rfl) ?_
 intro aa hS
 refine wpAnyH_done krQ ?_ _; clear hR0; refine ⟨by simp, hS.defers, ?_⟩
 refine hK286 _ _ ?_
 refine Go.wpIn_block ?_
 replace hR := hback _ (hR.sub exQ)
 replace hR := hR.pk (r := J 0) pkQ
 refine xloopI (X := Nat) [(0, _), (1, _), (3, _), (5, _)] (fun x => [(6, .int .i64 (((M[x]?.getD (S + rv)) : Nat) : Int))]) (fun x => [J x]) _ (fun x => x ≤ M.length) (fun x => M.length - x) 0 (Nat.zero_le _) (hS.le (Le.cons rfl (Le.nilapp (Le.cons rfl (Le.cons rfl (Le.cons rfl (Le.cons rfl (Le.nil _)))))))) hR ?_
 clear hS hR; rintro i aa ww hI hS hR; dsimp only [List.cons_append, List.nil_append] at hI hS hR
 refine Go.wpIn_seq_k ?_; intro K288 hK288
 refine Go.wpIn_seq_k ?_; intro K289 hK289
 refine Go.wpIn_region_lit ?_
 refine xA hS hR (Yld.move hS rfl) (by decide) ?_; clear hS; intro aa hS
 refine xA hS hR (Yld.move hS rfl) (by decide) ?_; clear hS; intro aa hS
 refine xA hS hR (Yld.neq hS rfl rfl) (by decide) ?_; clear hS; intro aa hS
 refine Go.wpListIn_nil ?_
 refine hK289 _ _ ?_
 refine hS.splitB (t := 25) rfl ?_ ?_ <;> clear hS
 ·
  intro hg hS
  have hi : i < M.length := by
   rcases Nat.lt_or_ge i M.length with h | h
   ·
    exact h
   ·
    exfalso; apply hg; rw [List.getElem?_eq_none h]; rfl
  have hb9 := hmb i
  refine xcondT hS rfl ?_
  refine Go.wpIn_skip ?_
  refine hK288 _ _ ?_
  refine Go.wpIn_seq_k ?_; intro K290 hK290
  refine Go.wpIn_block ?_
  refine Go.wpIn_seq_k ?_; intro K291 hK291
  refine Go.wpIn_region_lit ?_
  refine xA hS hR (Yld.move hS rfl) (by decide) ?_; clear hS; intro aa hS
  refine xA hS hR (Yld.move hS rfl) (by decide) ?_; clear hS; intro aa hS
  refine xY hS rfl rfl (hY _ i _ hi (hR.pk (r := J i) pkQ)) (by decide) ?_; clear hS hR; intro aa ww bb hS hR
  refine hS.splitB (t := 38) rfl ?_ ?_ <;> clear hS
  ·
   intro hg hS
   subst hg
   dsimp only [cond] at hR
   obtain ⟨Z, hR, hback⟩ := hM (i + 1) _ _ (hR.pk (r := J (i + 1)) pkQ)
   refine xA hS hR (Yld.not hS rfl) (by decide) ?_; clear hS; intro aa hS
   refine Go.wpListIn_nil ?_
   refine hK291 _ _ ?_
   refine xcondF hS rfl ?_
   refine Go.wpIn_skip ?_
   refine hK290 _ _ ?_
   refine xdrawn krQ krQ hS hR Ex.refl ?_; clear hR; intro ww hR hR0
   revert aa
   refine eA 0 rfl krQ (fun _ _ _ h => h) hR0 rfl (fun _ hS => Yld.load1 hS rfl Tryz.underlying123 rfl rdQ) ?_
   refine eA 1 rfl krQ (fun _ _ _ h => h) hR0 rfl (fun _ hS => Yld.nilCheck hS rfl) ?_
   refine eA 2 rfl krQ (fun _ _ _ h => h) hR0 rfl (fun _ hS => Yld.fieldAddr hS rfl 0 Tryz.underlying183 rfl rfl info181 (by decide)) ?_
   refine eA 3 rfl krQ (fun _ _ _ h => h) hR0 rfl (fun _ hS => Yld.load1 hS rfl Tryz.underlying181 rfl rdQ) ?_
   refine eA 4 rfl krQ (fun _ _ _ h => h) hR0 rfl (fun _ hS => Yld.move hS rfl) ?_
   refine eA 5 rfl krQ (fun _ _ _ h => h) hR0 rfl (fun _ hS => Yld.load1 hS rfl Tryz.underlying3 rfl rdQ) ?_
   refine eA 6 rfl krQ (fun _ _ _ h => h) hR0 rfl (fun _ hS => ihQ 3 ((M[i]?.getD (S + rv))) Tryz.underlying181 info180) ?_
   refine eA 7 rfl krQ (fun _ _ _ h => h) hR0 rfl (fun _ hS => Yld.fieldAddr hS rfl 0 Tryz.underlying180 rfl rfl info178 (by decide)) ?_
   refine eA 8 rfl krQ (fun _ _ _ h => h) hR0 rfl (fun _ hS => Yld.to (u := .pointer (some ⟨blkOf r1, (M[i]?.getD (S + rv)) * 3 + w9, none⟩)) (Yld.indexArr hS rfl rfl Tryz.underlying178 info3 (by omega) (by omega)) (by have h1 : (Tryz.t3).size = 1 := rfl; rw [h1]; congr 3 <;> omega)) ?_
   refine eA 9 rfl krQ (fun _ _ _ h => h) hR0 rfl (fun _ hS => Yld.load1 hS rfl Tryz.underlying3 rfl (Rd.rec (k := (M[i]?.getD (S + rv))) (j := w9) (v := .int .i64 ((P w9 (M[i]?.getD (S + rv)) : Nat) : Int)) (xs := nods (S + n) P R) pkQ (by intro _; rfl) (by rw [nods_len]; omega) (by rw [nods_get]; exact eL_get (r := (fun d => ((P d (M[i]?.getD (S + rv)) : Nat) : Int), R (M[i]?.getD (S + rv)))) (by omega)))) ?_
   intro aa hS
   rw [hms i hi] at hS
   revert aa
   refine eA 10 rfl krQ (fun _ _ _ h => h) hR0 rfl (fun _ hS => Yld.assign hS rfl) ?_
   intro aa hS
   refine wpAnyH_done krQ ?_ _; clear hR0; refine ⟨by simp, hS.defers, ?_⟩
   replace hR := hback _ (hR.sub exQ)
   refine ⟨i + 1, ?_, ?_, hasW (hS.le (Le.cons rfl (Le.nilapp (Le.cons rfl (Le.cons rfl (Le.cons rfl (Le.cons rfl (Le.nil _)))))))), hR.sub (Ex.take pkQ (Ex.nilapp exQ))⟩
   ·
    omega
   ·
    omega
  ·
   intro hg hS
   subst hg
   dsimp only [cond] at hR
   refine xA hS hR (Yld.not hS rfl) (by decide) ?_; clear hS; intro aa hS
   refine Go.wpListIn_nil ?_
   refine hK291 _ _ ?_
   refine xcondT hS rfl ?_
   refine Go.wpIn_ret ?_
   repeat first | with_reducible refine thenR ?_ | with_reducible refine blockR ?_ | with_reducible refine scopeR ?_
   refine xretN (fn := Tryz.f142) (e := .ret) [] rfl (.inl rfl) Tryz.results142 hS hR ?_; clear hR; intro ww hR; refine ⟨_, .nil, rfl, ?_⟩
   first | (refine .inl (hR.sub ?_); (repeat (first | with_reducible exact Ex.refl | (with_reducible apply Ex.take; · repeat (first | with_reducible exact Pk.here | with_reducible apply Pk.there)) | with_reducible apply Ex.drop)); done) | (refine .inr (hR.sub ?_); (repeat (first | with_reducible exact Ex.refl | (with_reducible apply Ex.take; · repeat (first | with_reducible exact Pk.here | with_reducible apply Pk.there)) | with_reducible apply Ex.drop)); done)
 ·
  intro hg hS
  have hi2 : i = M.length := by
   rcases Nat.lt_or_ge i M.length with h | h
   ·
    exact absurd (by omega) (hme i h)
   ·
    omega
  subst hi2
  refine xcondF hS rfl ?_
  refine Go.wpIn_exit ?_
  repeat (first | with_reducible refine thenX ?_ | with_reducible refine blockX ?_ | with_reducible refine blockY (by rfl) ?_)
  refine xretN (fn := Tryz.f142) (e := .normal) [] rfl (.inr rfl) Tryz.results142 hS hR ?_; clear hR; intro ww hR; refine ⟨_, .nil, rfl, ?_⟩
  first | (refine .inl (hR.sub ?_); (repeat (first | with_reducible exact Ex.refl | (with_reducible apply Ex.take; · repeat (first | with_reducible exact Pk.here | with_reducible apply Pk.there)) | with_reducible apply Ex.drop)); done) | (refine .inr (hR.sub ?_); (repeat (first | with_reducible exact Ex.refl | (with_reducible apply Ex.take; · repeat (first | with_reducible exact Pk.here | with_reducible apply Pk.there)) | with_reducible apply Ex.drop)); done)
end Go.Proofs.YtkhdejjompbklaaGreat.Sx
