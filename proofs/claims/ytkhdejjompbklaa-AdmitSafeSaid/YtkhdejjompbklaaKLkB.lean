/-
 
-/
import Derived.Test.YtkhdejjompbklaaKLkA
namespace Go.Proofs.Ytkhdejjompbklaa.Sx
open Go
set_option maxRecDepth 20000
set_option linter.unusedVariables false
set_option linter.unusedSimpArgs false
theorem LOf_ok {S n b : Nat} {L : Nat → List Nat} {l : List HP} {w : World} {x : Int} (hR : Sep (linksA 142 160 3 b S n L :: l) w) : CallR Try.prog 78 [.pointer (some ⟨b, 0, none⟩), .int .i64 x] w (fun v w' => v = optV (ofS S n L x) ∧ Sep (linksA 142 160 3 b S n L :: l) w') := by
 refine enter Try.func78 rfl Try.ntmps78 (Nat.le_of_ble_eq_true rfl) ?_; intro aa hS
 obtain ⟨P, R, rg, nm, sz, r1, c1, r2, c2, r3, c3, r4, c4, hW, hR⟩ := hR.linksAE
 have hs1 := hW.s1
 have hs2 := hW.s2
 have hn1 := hW.n1
 have hn2 := hW.n2
 obtain ⟨hb1, hb2, hb3, hb4⟩ := hR.linksBk hn1
 refine wp_seq_k ?_; intro K118 hK118
 refine wp_region_lit ?_
 revert aa
 refine qN hR ?_
 refine qN hR ?_
 intro aa hS
 refine wpList_nil ?_
 refine hK118 _ _ ?_
 refine wp_seq_k ?_; intro K119 hK119
 refine wp_seq_k ?_; intro K120 hK120
 refine wp_region_lit ?_
 revert aa
 refine qM hR ?_
 refine qM hR ?_
 intro aa hS
 refine sB (Bcall hS rfl Try.call93 (lslot_ok (hR.pk (r := blk b _ _) pkQ) (by omega)) (by decide) ?_); clear hS; intro aa ww vv hS hp
 clear hR
 obtain ⟨rfl, hR⟩ := hp
 revert aa
 refine qA hR rfl (fun _ hS => Yld.not hS rfl) ?_
 refine qM hR ?_
 intro aa hS
 refine hS.splitB (t := 10) rfl ?_ ?_ <;> clear hS
 ·
  intro hg hS
  revert aa
  refine qZ ?_
  refine qZ ?_
  refine qZ ?_
  refine qZ ?_
  refine qZ ?_
  refine qZ ?_
  refine qZ ?_
  refine qZ ?_
  refine qZ ?_
  refine qA hR rfl (fun _ hS => Yld.pickT hS rfl rfl) ?_
  intro aa hS
  refine wpList_nil ?_
  refine hK120 _ _ ?_
  refine condT hS rfl ?_
  refine wp_seq_k ?_; intro K121 hK121
  refine wp_region_lit ?_
  revert aa
  refine qN hR ?_
  refine qN hR ?_
  intro aa hS
  refine wpList_nil ?_
  refine hK121 _ _ ?_
  refine wp_ret ?_
  repeat first | with_reducible refine thenR ?_ | with_reducible refine blockR ?_ | with_reducible refine scopeR ?_
  refine retN (fn := Try.f78) (e := .ret) (.inl rfl) Try.results78 hS hR ⟨_, .cons (.tmp rfl) (.cons (.tmp rfl) (.nil)), rfl, ?_⟩
  refine ⟨?_, Sep.linksAI (TL := 142) (TN := 160) (TI := 3) (b := b) hW rfl (hR.sub exQ)⟩
  first | (rw [ofS, if_neg (by omega)]; (try rfl); done) | (rw [ofS, if_pos (by omega), Int.toNat_natCast, hc2]; (try rfl); done)
 ·
  intro hg hS
  obtain ⟨x, rfl⟩ : ∃ z9 : Nat, x = z9 := ⟨(x).toNat, by omega⟩
  revert aa
  refine qMg hR ?_
  refine qAg hR rfl rfl rfl (fun _ hS => Yld.nilCheck hS rfl) ?_
  refine qAg hR rfl rfl rfl (fun _ hS => Yld.fieldAddr hS rfl 0 Try.underlying142 rfl rfl info140 (by decide)) ?_
  refine qAg hR rfl rfl rfl (fun _ hS => Yld.load1 hS rfl Try.underlying140 rfl rdQ) ?_
  refine qMg hR ?_
  refine qAg hR rfl rfl rfl (fun _ hS => ihQ 3 (x) Try.underlying140 info160) ?_
  refine qAg hR rfl rfl rfl (fun _ hS => Yld.fieldAddr hS rfl 2 Try.underlying160 rfl rfl info3 (by decide)) ?_
  refine qAg hR rfl rfl rfl (fun _ hS => Yld.load1 hS rfl Try.underlying3 rfl (Rd.rec (k := x) (j := 2) (v := .int .i64 (R x)) (xs := nods (S + n) P R) pkQ (by intro _; rfl) (by rw [nods_len]; omega) (by rw [nods_get]; rfl))) ?_
  refine qAg hR rfl rfl rfl (fun _ hS => Yld.lss hS rfl rfl) ?_
  refine qA hR rfl (fun _ hS => Yld.pickF hS rfl rfl) ?_
  intro aa hS
  refine wpList_nil ?_
  refine hK120 _ _ ?_
  refine hS.splitB (t := 20) rfl ?_ ?_ <;> clear hS
  ·
   intro hg hS
   rcases hW.cases (x := x) (by omega) with ⟨hc1, hc2, hc3⟩ | ⟨i, hi, hx, hc1, hc2⟩; rotate_left; · exfalso; omega
   refine condT hS rfl ?_
   refine wp_seq_k ?_; intro K122 hK122
   refine wp_region_lit ?_
   revert aa
   refine qN hR ?_
   refine qN hR ?_
   intro aa hS
   refine wpList_nil ?_
   refine hK122 _ _ ?_
   refine wp_ret ?_
   repeat first | with_reducible refine thenR ?_ | with_reducible refine blockR ?_ | with_reducible refine scopeR ?_
   refine retN (fn := Try.f78) (e := .ret) (.inl rfl) Try.results78 hS hR ⟨_, .cons (.tmp rfl) (.cons (.tmp rfl) (.nil)), rfl, ?_⟩
   refine ⟨?_, Sep.linksAI (TL := 142) (TN := 160) (TI := 3) (b := b) hW rfl (hR.sub exQ)⟩
   first | (rw [ofS, if_neg (by omega)]; (try rfl); done) | (rw [ofS, if_pos (by omega), Int.toNat_natCast, hc2]; (try rfl); done)
  ·
   intro hg hS
   rcases hW.cases (x := x) (by omega) with ⟨hc1, hc2, hc3⟩ | ⟨i, hi, hx, hc1, hc2⟩; · exfalso; omega
   have hri := hW.hrg i hi
   have hnm := hW.hnm i hi
   refine condF hS rfl ?_
   refine wp_skip ?_
   refine hK119 _ _ ?_
   refine wp_seq_k ?_; intro K123 hK123
   refine drawn krQ hR Ex.refl ?_; clear hR; intro ww hR hR0
   revert aa
   refine eA 0 rfl krQ (fun _ _ _ h => h) hR0 rfl (fun _ hS => Yld.move hS rfl) ?_
   refine eA 1 rfl krQ (fun _ _ _ h => h) hR0 rfl (fun _ hS => Yld.nilCheck hS rfl) ?_
   refine eA 2 rfl krQ (fun _ _ _ h => h) hR0 rfl (fun _ hS => Yld.fieldAddr hS rfl 3 Try.underlying142 rfl rfl info41 (by decide)) ?_
   refine eA 3 rfl krQ (fun _ _ _ h => h) hR0 rfl (fun _ hS => Yld.load1 hS rfl Try.underlying41 rfl rdQ) ?_
   refine eA 4 rfl krQ (fun _ _ _ h => h) hR0 rfl (fun _ hS => Yld.move hS rfl) ?_
   refine eA 5 rfl krQ (fun _ _ _ h => h) hR0 rfl (fun _ hS => Yld.nilCheck hS rfl) ?_
   refine eA 6 rfl krQ (fun _ _ _ h => h) hR0 rfl (fun _ hS => Yld.fieldAddr hS rfl 0 Try.underlying142 rfl rfl info140 (by decide)) ?_
   refine eA 7 rfl krQ (fun _ _ _ h => h) hR0 rfl (fun _ hS => Yld.load1 hS rfl Try.underlying140 rfl rdQ) ?_
   refine eA 8 rfl krQ (fun _ _ _ h => h) hR0 rfl (fun _ hS => Yld.move hS rfl) ?_
   refine eA 9 rfl krQ (fun _ _ _ h => h) hR0 rfl (fun _ hS => ihQ 3 (x) Try.underlying140 info160) ?_
   refine eA 10 rfl krQ (fun _ _ _ h => h) hR0 rfl (fun _ hS => Yld.fieldAddr hS rfl 2 Try.underlying160 rfl rfl info3 (by decide)) ?_
   refine eA 11 rfl krQ (fun _ _ _ h => h) hR0 rfl (fun _ hS => Yld.load1 hS rfl Try.underlying3 rfl (Rd.rec (k := x) (j := 2) (v := .int .i64 (R x)) (xs := nods (S + n) P R) pkQ (by intro _; rfl) (by rw [nods_len]; omega) (by rw [nods_get]; rfl))) ?_
   intro aa hS
   replace hS := hS.say (t := 32) (.int .i64 ((rg i : Nat) : Int)) rfl (by rw [hc1])
   revert aa
   refine eA 12 rfl krQ (fun _ _ _ h => h) hR0 rfl (fun _ hS => ihQ 1 (rg i) Try.underlying41 info3) ?_
   refine eA 13 rfl krQ (fun _ _ _ h => h) hR0 rfl (fun _ hS => Yld.load1 hS rfl Try.underlying3 rfl (Rd.rec0 (k := (rg i)) (v := .int .i64 ((nm (rg i) : Nat) : Int)) (xs := tabN n nm) pkQ (by intro _; rfl) (by rw [tabN_len]; omega) (by rw [tabN_get]; rfl))) ?_
   intro aa hS
   rw [hnm] at hS
   revert aa
   refine eA 14 rfl krQ (fun _ _ _ h => h) hR0 rfl (fun _ hS => Yld.assign hS rfl) ?_
   refine eA 15 rfl krQ (fun _ _ _ h => h) hR0 rfl (fun _ hS => Yld.assign hS rfl) ?_
   intro aa hS
   refine wpAnyH_done krQ ?_ _; clear hR0
   refine hK123 _ _ ?_
   refine wp_ret ?_
   repeat first | with_reducible refine thenR ?_ | with_reducible refine blockR ?_ | with_reducible refine scopeR ?_
   refine retN (fn := Try.f78) (e := .ret) (.inl rfl) Try.results78 hS hR ⟨_, .cons (.tmp rfl) (.cons (.tmp rfl) (.nil)), rfl, ?_⟩
   refine ⟨?_, Sep.linksAI (TL := 142) (TN := 160) (TI := 3) (b := b) hW rfl (hR.sub exQ)⟩
   first | (rw [ofS, if_neg (by omega)]; (try rfl); done) | (rw [ofS, if_pos (by omega), Int.toNat_natCast, hc2]; (try rfl); done)
theorem Lend_ok {S n b : Nat} {L : Nat → List Nat} {l : List HP} {w : World} {x : Int} {w9 : Nat} (hR : Sep (linksA 142 160 3 b S n L :: l) w) (hw : w9 < 2) : CallR Try.prog 83 [.pointer (some ⟨b, 0, none⟩), .int .i64 x, .int .i64 (w9 : Int)] w (fun v w' => v = optV (endS n L w9 x) ∧ Sep (linksA 142 160 3 b S n L :: l) w') := by
 refine enter Try.func83 rfl Try.ntmps83 (Nat.le_of_ble_eq_true rfl) ?_; intro aa hS
 obtain ⟨P, R, rg, nm, sz, r1, c1, r2, c2, r3, c3, r4, c4, hW, hR⟩ := hR.linksAE
 have hs1 := hW.s1
 have hs2 := hW.s2
 have hn1 := hW.n1
 have hn2 := hW.n2
 obtain ⟨hb1, hb2, hb3, hb4⟩ := hR.linksBk hn1
 refine wp_seq_k ?_; intro K124 hK124
 refine wp_region_lit ?_
 revert aa
 refine qN hR ?_
 refine qN hR ?_
 intro aa hS
 refine wpList_nil ?_
 refine hK124 _ _ ?_
 refine wp_seq_k ?_; intro K125 hK125
 refine wp_seq_k ?_; intro K126 hK126
 refine wp_region_lit ?_
 revert aa
 refine qM hR ?_
 refine qM hR ?_
 intro aa hS
 refine sB (Bcall hS rfl Try.call82 (llist_ok (hR.pk (r := blk b _ _) pkQ) (by omega)) (by decide) ?_); clear hS; intro aa ww vv hS hp
 clear hR
 obtain ⟨rfl, hR⟩ := hp
 refine sA hS hR (Yld.not hS rfl) (by decide) ?_; clear hS; intro aa hS
 refine wpList_nil ?_
 refine hK126 _ _ ?_
 refine hS.splitB (t := 11) rfl ?_ ?_ <;> clear hS
 ·
  intro hg hS
  refine condT hS rfl ?_
  refine wp_seq_k ?_; intro K127 hK127
  refine wp_region_lit ?_
  revert aa
  refine qN hR ?_
  refine qN hR ?_
  intro aa hS
  refine wpList_nil ?_
  refine hK127 _ _ ?_
  refine wp_ret ?_
  repeat first | with_reducible refine thenR ?_ | with_reducible refine blockR ?_ | with_reducible refine scopeR ?_
  refine retN (fn := Try.f83) (e := .ret) (.inl rfl) Try.results83 hS hR ⟨_, .cons (.tmp rfl) (.cons (.tmp rfl) (.nil)), rfl, ?_⟩
  exact ⟨by rw [endS, if_neg (by omega)]; (try rfl); done, Sep.linksAI (TL := 142) (TN := 160) (TI := 3) (b := b) hW rfl (hR.sub exQ)⟩
 ·
  intro hg hS
  obtain ⟨x, rfl⟩ : ∃ z9 : Nat, x = z9 := ⟨(x).toNat, by omega⟩
  have hxn : x < n := by omega
  have hri := hW.hrg x hxn
  refine condF hS rfl ?_
  refine wp_skip ?_
  refine hK125 _ _ ?_
  refine wp_seq_k ?_; intro K128 hK128
  refine drawn krQ hR Ex.refl ?_; clear hR; intro ww hR hR0
  revert aa
  refine eA 0 rfl krQ (fun _ _ _ h => h) hR0 rfl (fun _ hS => Yld.move hS rfl) ?_
  refine eA 1 rfl krQ (fun _ _ _ h => h) hR0 rfl (fun _ hS => Yld.move hS rfl) ?_
  refine eA 2 rfl krQ (fun _ _ _ h => h) hR0 rfl (fun _ hS => Yld.nilCheck hS rfl) ?_
  refine eA 3 rfl krQ (fun _ _ _ h => h) hR0 rfl (fun _ hS => Yld.fieldAddr hS rfl 1 Try.underlying142 rfl rfl info3 (by decide)) ?_
  refine eA 4 rfl krQ (fun _ _ _ h => h) hR0 rfl (fun _ hS => Yld.load1 hS rfl Try.underlying3 rfl rdQ) ?_
  refine eA 5 rfl krQ (fun _ _ _ h => h) hR0 rfl (fun _ hS => Yld.move hS rfl) ?_
  refine eA 6 rfl krQ (fun _ _ _ h => h) hR0 rfl (fun _ hS => Yld.nilCheck hS rfl) ?_
  refine eA 7 rfl krQ (fun _ _ _ h => h) hR0 rfl (fun _ hS => Yld.fieldAddr hS rfl 2 Try.underlying142 rfl rfl info41 (by decide)) ?_
  refine eA 8 rfl krQ (fun _ _ _ h => h) hR0 rfl (fun _ hS => Yld.load1 hS rfl Try.underlying41 rfl rdQ) ?_
  refine eA 9 rfl krQ (fun _ _ _ h => h) hR0 rfl (fun _ hS => Yld.move hS rfl) ?_
  refine eA 10 rfl krQ (fun _ _ _ h => h) hR0 rfl (fun _ hS => ihQ 1 (x) Try.underlying41 info3) ?_
  refine eA 11 rfl krQ (fun _ _ _ h => h) hR0 rfl (fun _ hS => Yld.load1 hS rfl Try.underlying3 rfl (Rd.rec0 (k := x) (v := .int .i64 ((rg x : Nat) : Int)) (xs := tabN n rg) pkQ (by intro _; rfl) (by rw [tabN_len]; omega) (by rw [tabN_get]; rfl))) ?_
  intro aa hS
  refine dA 12 rfl krQ krQ krQ (fun _ _ _ h => h) hS hR0 adQ (by decide) ?_; clear hS; intro aa hS
  replace hS := hS.say (t := 24) (.int .i64 ((S + rg x : Nat) : Int)) rfl (by rw [Int.natCast_add])
  revert aa
  refine eA 13 rfl krQ (fun _ _ _ h => h) hR0 rfl (fun _ hS => Yld.move hS rfl) ?_
  intro aa hS
  refine dOne (i := 14) krQ ?_
  refine dop rfl (Bcall hS rfl Try.call95 (lbeside_ok ((hR.pk (r := sls r1 _ _ _ _ _) pkQ).pk (r := blk b _ _) pkQ) hb1 (by omega) hw) (by decide) ?_); clear hS; intro aa ww vv hS hp
  clear hR hR0
  obtain ⟨rfl, hR⟩ := hp
  refine dnext (hR.sub exQ) ?_; intro hR0
  revert aa
  refine eA 15 rfl krQ (fun _ _ _ h => h) hR0 rfl (fun _ hS => Yld.extract hS rfl rfl) ?_
  refine eA 16 rfl krQ (fun _ _ _ h => h) hR0 rfl (fun _ hS => Yld.extract hS rfl rfl) ?_
  refine eA 17 rfl krQ (fun _ _ _ h => h) hR0 rfl (fun _ hS => Yld.assign hS rfl) ?_
  refine eA 18 rfl krQ (fun _ _ _ h => h) hR0 rfl (fun _ hS => Yld.assign hS rfl) ?_
  intro aa hS
  refine wpAnyH_done krQ ?_ _; clear hR0
  refine hK128 _ _ ?_
  refine wp_ret ?_
  repeat first | with_reducible refine thenR ?_ | with_reducible refine blockR ?_ | with_reducible refine scopeR ?_
  refine retN (fn := Try.f83) (e := .ret) (.inl rfl) Try.results83 hS hR ⟨_, .cons (.tmp rfl) (.cons (.tmp rfl) (.nil)), rfl, ?_⟩
  refine ⟨?_, Sep.linksAI (TL := 142) (TN := 160) (TI := 3) (b := b) hW rfl (hR.sub exQ)⟩
  rw [endS, if_pos (show 0 ≤ (x : Int) ∧ (x : Int) < n by omega), Int.toNat_natCast]
  rcases hW.firstE hw hxn with ⟨h1, h2⟩ | ⟨y, h1, h2, h3⟩
  ·
   rw [h1, if_neg h2]; (try rfl); done
  ·
   rw [h1, h2, if_pos h3]; (try rfl); done
theorem Lstep_ok {S n b : Nat} {L : Nat → List Nat} {l : List HP} {w : World} {x : Int} {w9 : Nat} (hR : Sep (linksA 142 160 3 b S n L :: l) w) (hw : w9 < 2) : CallR Try.prog 104 [.pointer (some ⟨b, 0, none⟩), .int .i64 x, .int .i64 (w9 : Int)] w (fun v w' => v = optV (stepS S n L w9 x) ∧ Sep (linksA 142 160 3 b S n L :: l) w') := by
 refine enter Try.func104 rfl Try.ntmps104 (Nat.le_of_ble_eq_true rfl) ?_; intro aa hS
 refine wp_seq_k ?_; intro K129 hK129
 refine wp_region_lit ?_
 revert aa
 refine qN hR ?_
 refine qN hR ?_
 intro aa hS
 refine wpList_nil ?_
 refine hK129 _ _ ?_
 refine wp_seq_k ?_; intro K130 hK130
 refine wp_seq_k ?_; intro K131 hK131
 refine wp_region_lit ?_
 revert aa
 refine qM hR ?_
 refine qM hR ?_
 intro aa hS
 refine sB (Bcall hS rfl Try.call78 (LOf_ok (hR.pk (r := linksA _ _ _ _ _ _ _) pkQ)) (by decide) ?_); clear hS; intro aa ww vv hS hp
 clear hR
 obtain ⟨rfl, hR⟩ := hp
 revert aa
 refine qM hR ?_
 refine qX hR ?_
 refine qX hR ?_
 refine qN hR ?_
 refine qN hR ?_
 intro aa hS
 refine wpList_nil ?_
 refine hK131 _ _ ?_
 refine wp_seq_k ?_; intro K132 hK132
 refine wp_region_lit ?_
 revert aa
 refine qM hR ?_
 refine qA hR rfl (fun _ hS => Yld.not hS rfl) ?_
 intro aa hS
 refine wpList_nil ?_
 refine hK132 _ _ ?_
 refine hS.splitB (t := 17) rfl ?_ ?_ <;> clear hS
 ·
  intro hg hS
  have hno : ofS S n L x = none := by cases e : ofS S n L x with
   | none => rfl
   | some y => rw [e] at hg; simp at hg
  refine condT hS rfl ?_
  refine wp_seq_k ?_; intro K133 hK133
  refine wp_region_lit ?_
  revert aa
  refine qN hR ?_
  refine qN hR ?_
  intro aa hS
  refine wpList_nil ?_
  refine hK133 _ _ ?_
  refine wp_ret ?_
  repeat first | with_reducible refine thenR ?_ | with_reducible refine blockR ?_ | with_reducible refine scopeR ?_
  refine retN (fn := Try.f104) (e := .ret) (.inl rfl) Try.results104 hS hR ⟨_, .cons (.tmp rfl) (.cons (.tmp rfl) (.nil)), rfl, ?_⟩
  exact ⟨by rw [stepS, hno]; (try rfl); done, (hR.sub exQ)⟩
 ·
  intro hg hS
  obtain ⟨i, hi0⟩ := Option.isSome_iff_exists.1 hg
  have hx0 : 0 ≤ x ∧ x < S := by
   by_cases h : 0 ≤ x ∧ x < S
   ·
    exact h
   ·
    rw [ofS, if_neg h] at hi0; cases hi0
  obtain ⟨x, rfl⟩ : ∃ z9 : Nat, x = z9 := ⟨(x).toNat, by omega⟩
  have hi1 := hi0
  rw [ofS, if_pos hx0, Int.toNat_natCast] at hi1
  have hi := (ofL_mem hi1).1
  have hx := (ofL_mem hi1).2
  obtain ⟨P, R, rg, nm, sz, r1, c1, r2, c2, r3, c3, r4, c4, hW, hR⟩ := hR.linksAE
  have hs1 := hW.s1
  have hs2 := hW.s2
  have hn1 := hW.n1
  have hn2 := hW.n2
  obtain ⟨hb1, hb2, hb3, hb4⟩ := hR.linksBk hn1
  refine condF hS rfl ?_
  refine wp_skip ?_
  refine hK130 _ _ ?_
  refine wp_seq_k ?_; intro K134 hK134
  refine wp_region_lit ?_
  revert aa
  refine qM hR ?_
  refine qM hR ?_
  refine qM hR ?_
  intro aa hS
  refine sB (Bcall hS rfl Try.call95 (lbeside_ok ((hR.pk (r := sls r1 _ _ _ _ _) pkQ).pk (r := blk b _ _) pkQ) hb1 (by omega) hw) (by decide) ?_); clear hS; intro aa ww vv hS hp
  clear hR
  obtain ⟨rfl, hR⟩ := hp
  revert aa
  refine qX hR ?_
  refine qX hR ?_
  refine qN hR ?_
  refine qN hR ?_
  intro aa hS
  refine wpList_nil ?_
  refine hK134 _ _ ?_
  refine wp_ret ?_
  repeat first | with_reducible refine thenR ?_ | with_reducible refine blockR ?_ | with_reducible refine scopeR ?_
  refine retN (fn := Try.f104) (e := .ret) (.inl rfl) Try.results104 hS hR ⟨_, .cons (.tmp rfl) (.cons (.tmp rfl) (.nil)), rfl, ?_⟩
  refine ⟨?_, Sep.linksAI (TL := 142) (TN := 160) (TI := 3) (b := b) hW rfl (hR.sub exQ)⟩
  rw [stepS, hi0]
  dsimp only
  rw [Int.toNat_natCast]
  rcases hW.nextE hw hi hx with ⟨h1, h2⟩ | ⟨y, h1, h2, h3⟩
  ·
   rw [h1, if_neg h2]; (try rfl); done
  ·
   rw [h1, h2, if_pos h3]; (try rfl); done
theorem LFirst_ok {S n b : Nat} {L : Nat → List Nat} {l : List HP} {w : World} {x : Int} (hR : Sep (linksA 142 160 3 b S n L :: l) w) : CallR Try.prog 62 [.pointer (some ⟨b, 0, none⟩), .int .i64 x] w (fun v w' => v = optV (endS n L 0 x) ∧ Sep (linksA 142 160 3 b S n L :: l) w') := by
 refine enter Try.func62 rfl Try.ntmps62 (Nat.le_of_ble_eq_true rfl) ?_; intro aa hS
 refine wp_seq_k ?_; intro K135 hK135
 refine wp_region_lit ?_
 revert aa
 refine qN hR ?_
 refine qN hR ?_
 intro aa hS
 refine wpList_nil ?_
 refine hK135 _ _ ?_
 refine wp_seq_k ?_; intro K136 hK136
 refine wp_region_lit ?_
 revert aa
 refine qM hR ?_
 refine qM hR ?_
 intro aa hS
 refine sB (Bcall hS rfl Try.call83 (Lend_ok (w9 := 0) (hR.pk (r := linksA _ _ _ _ _ _ _) pkQ) (by omega)) (by decide) ?_); clear hS; intro aa ww vv hS hp
 clear hR
 obtain ⟨rfl, hR⟩ := hp
 revert aa
 refine qX hR ?_
 refine qX hR ?_
 refine qN hR ?_
 refine qN hR ?_
 intro aa hS
 refine wpList_nil ?_
 refine hK136 _ _ ?_
 refine wp_ret ?_
 repeat first | with_reducible refine thenR ?_ | with_reducible refine blockR ?_ | with_reducible refine scopeR ?_
 refine retN (fn := Try.f62) (e := .ret) (.inl rfl) Try.results62 hS hR ⟨_, .cons (.tmp rfl) (.cons (.tmp rfl) (.nil)), rfl, ?_⟩
 exact ⟨rfl, (hR.sub exQ)⟩
theorem LNext_ok {S n b : Nat} {L : Nat → List Nat} {l : List HP} {w : World} {x : Int} (hR : Sep (linksA 142 160 3 b S n L :: l) w) : CallR Try.prog 100 [.pointer (some ⟨b, 0, none⟩), .int .i64 x] w (fun v w' => v = optV (stepS S n L 0 x) ∧ Sep (linksA 142 160 3 b S n L :: l) w') := by
 refine enter Try.func100 rfl Try.ntmps100 (Nat.le_of_ble_eq_true rfl) ?_; intro aa hS
 refine wp_seq_k ?_; intro K137 hK137
 refine wp_region_lit ?_
 revert aa
 refine qN hR ?_
 refine qN hR ?_
 intro aa hS
 refine wpList_nil ?_
 refine hK137 _ _ ?_
 refine wp_seq_k ?_; intro K138 hK138
 refine wp_region_lit ?_
 revert aa
 refine qM hR ?_
 refine qM hR ?_
 intro aa hS
 refine sB (Bcall hS rfl Try.call104 (Lstep_ok (w9 := 0) (hR.pk (r := linksA _ _ _ _ _ _ _) pkQ) (by omega)) (by decide) ?_); clear hS; intro aa ww vv hS hp
 clear hR
 obtain ⟨rfl, hR⟩ := hp
 revert aa
 refine qX hR ?_
 refine qX hR ?_
 refine qN hR ?_
 refine qN hR ?_
 intro aa hS
 refine wpList_nil ?_
 refine hK138 _ _ ?_
 refine wp_ret ?_
 repeat first | with_reducible refine thenR ?_ | with_reducible refine blockR ?_ | with_reducible refine scopeR ?_
 refine retN (fn := Try.f100) (e := .ret) (.inl rfl) Try.results100 hS hR ⟨_, .cons (.tmp rfl) (.cons (.tmp rfl) (.nil)), rfl, ?_⟩
 exact ⟨rfl, (hR.sub exQ)⟩
theorem LLen_ok {S n b : Nat} {L : Nat → List Nat} {l : List HP} {w : World} {x : Int} (hR : Sep (linksA 142 160 3 b S n L :: l) w) : CallR Try.prog 58 [.pointer (some ⟨b, 0, none⟩), .int .i64 x] w (fun v w' => v = .int .i64 ((allS n L x).length : Int) ∧ Sep (linksA 142 160 3 b S n L :: l) w') := by
 refine enter Try.func58 rfl Try.ntmps58 (Nat.le_of_ble_eq_true rfl) ?_; intro aa hS
 obtain ⟨P, R, rg, nm, sz, r1, c1, r2, c2, r3, c3, r4, c4, hW, hR⟩ := hR.linksAE
 have hs1 := hW.s1
 have hs2 := hW.s2
 have hn1 := hW.n1
 have hn2 := hW.n2
 obtain ⟨hb1, hb2, hb3, hb4⟩ := hR.linksBk hn1
 refine wp_seq_k ?_; intro K139 hK139
 refine wp_region_lit ?_
 revert aa
 refine qN hR ?_
 intro aa hS
 refine wpList_nil ?_
 refine hK139 _ _ ?_
 refine wp_seq_k ?_; intro K140 hK140
 refine wp_seq_k ?_; intro K141 hK141
 refine wp_region_lit ?_
 revert aa
 refine qM hR ?_
 refine qM hR ?_
 intro aa hS
 refine sB (Bcall hS rfl Try.call82 (llist_ok (hR.pk (r := blk b _ _) pkQ) (by omega)) (by decide) ?_); clear hS; intro aa ww vv hS hp
 clear hR
 obtain ⟨rfl, hR⟩ := hp
 refine sA hS hR (Yld.not hS rfl) (by decide) ?_; clear hS; intro aa hS
 refine wpList_nil ?_
 refine hK141 _ _ ?_
 refine hS.splitB (t := 8) rfl ?_ ?_ <;> clear hS
 ·
  intro hg hS
  refine condT hS rfl ?_
  refine wp_seq_k ?_; intro K142 hK142
  refine wp_region_lit ?_
  revert aa
  refine qN hR ?_
  intro aa hS
  refine wpList_nil ?_
  refine hK142 _ _ ?_
  refine wp_ret ?_
  repeat first | with_reducible refine thenR ?_ | with_reducible refine blockR ?_ | with_reducible refine scopeR ?_
  refine ret1 (fn := Try.f58) (e := .ret) (.inl rfl) Try.results58 hS hR ⟨_, (.tmp rfl), ?_⟩
  refine ⟨?_, Sep.linksAI (TL := 142) (TN := 160) (TI := 3) (b := b) hW rfl (hR.sub exQ)⟩
  first | (rw [allS, if_neg (by omega)]; rfl) | (rw [allS, if_pos (by omega), Int.toNat_natCast]; (try rfl); done)
 ·
  intro hg hS
  obtain ⟨x, rfl⟩ : ∃ z9 : Nat, x = z9 := ⟨(x).toNat, by omega⟩
  have hxn : x < n := by omega
  have hri := hW.hrg x hxn
  refine condF hS rfl ?_
  refine wp_skip ?_
  refine hK140 _ _ ?_
  refine wp_seq_k ?_; intro K143 hK143
  refine drawn krQ hR Ex.refl ?_; clear hR; intro ww hR hR0
  revert aa
  refine eA 0 rfl krQ (fun _ _ _ h => h) hR0 rfl (fun _ hS => Yld.move hS rfl) ?_
  refine eA 1 rfl krQ (fun _ _ _ h => h) hR0 rfl (fun _ hS => Yld.nilCheck hS rfl) ?_
  refine eA 2 rfl krQ (fun _ _ _ h => h) hR0 rfl (fun _ hS => Yld.fieldAddr hS rfl 4 Try.underlying142 rfl rfl info41 (by decide)) ?_
  refine eA 3 rfl krQ (fun _ _ _ h => h) hR0 rfl (fun _ hS => Yld.load1 hS rfl Try.underlying41 rfl rdQ) ?_
  refine eA 4 rfl krQ (fun _ _ _ h => h) hR0 rfl (fun _ hS => Yld.move hS rfl) ?_
  refine eA 5 rfl krQ (fun _ _ _ h => h) hR0 rfl (fun _ hS => Yld.nilCheck hS rfl) ?_
  refine eA 6 rfl krQ (fun _ _ _ h => h) hR0 rfl (fun _ hS => Yld.fieldAddr hS rfl 2 Try.underlying142 rfl rfl info41 (by decide)) ?_
  refine eA 7 rfl krQ (fun _ _ _ h => h) hR0 rfl (fun _ hS => Yld.load1 hS rfl Try.underlying41 rfl rdQ) ?_
  refine eA 8 rfl krQ (fun _ _ _ h => h) hR0 rfl (fun _ hS => Yld.move hS rfl) ?_
  refine eA 9 rfl krQ (fun _ _ _ h => h) hR0 rfl (fun _ hS => ihQ 1 (x) Try.underlying41 info3) ?_
  refine eA 10 rfl krQ (fun _ _ _ h => h) hR0 rfl (fun _ hS => Yld.load1 hS rfl Try.underlying3 rfl (Rd.rec0 (k := x) (v := .int .i64 ((rg x : Nat) : Int)) (xs := tabN n rg) pkQ (by intro _; rfl) (by rw [tabN_len]; omega) (by rw [tabN_get]; rfl))) ?_
  refine eA 11 rfl krQ (fun _ _ _ h => h) hR0 rfl (fun _ hS => ihQ 1 (rg x) Try.underlying41 info3) ?_
  refine eA 12 rfl krQ (fun _ _ _ h => h) hR0 rfl (fun _ hS => Yld.load1 hS rfl Try.underlying3 rfl (Rd.rec0 (k := (rg x)) (v := .int .i64 ((sz (rg x) : Nat) : Int)) (xs := tabN n sz) pkQ (by intro _; rfl) (by rw [tabN_len]; omega) (by rw [tabN_get]; rfl))) ?_
  intro aa hS
  rw [hW.hsz x hxn] at hS
  revert aa
  refine eA 13 rfl krQ (fun _ _ _ h => h) hR0 rfl (fun _ hS => Yld.assign hS rfl) ?_
  intro aa hS
  refine wpAnyH_done krQ ?_ _; clear hR0
  refine hK143 _ _ ?_
  refine wp_ret ?_
  repeat first | with_reducible refine thenR ?_ | with_reducible refine blockR ?_ | with_reducible refine scopeR ?_
  refine ret1 (fn := Try.f58) (e := .ret) (.inl rfl) Try.results58 hS hR ⟨_, (.tmp rfl), ?_⟩
  refine ⟨?_, Sep.linksAI (TL := 142) (TN := 160) (TI := 3) (b := b) hW rfl (hR.sub exQ)⟩
  first | (rw [allS, if_neg (by omega)]; rfl) | (rw [allS, if_pos (by omega), Int.toNat_natCast]; (try rfl); done)
end Go.Proofs.Ytkhdejjompbklaa.Sx
