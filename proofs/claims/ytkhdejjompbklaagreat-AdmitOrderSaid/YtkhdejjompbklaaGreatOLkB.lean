/-
 
-/
import Derived.Test.YtkhdejjompbklaaGreatOLkA
namespace Go.Proofs.YtkhdejjompbklaaGreat.Sx
open Go
set_option maxRecDepth 20000
set_option linter.unusedVariables false
set_option linter.unusedSimpArgs false
theorem LOf_ok {S n b : Nat} {L : Nat → List Nat} {l : List HP} {w : World} {x : Int} (hR : Sep (linksA 183 180 3 b S n L :: l) w) : CallR Tryz.prog 76 [.pointer (some ⟨b, 0, none⟩), .int .i64 x] w (fun v w' => v = optV (ofS S n L x) ∧ Sep (linksA 183 180 3 b S n L :: l) w') := by
 refine enter Tryz.func76 rfl Tryz.ntmps76 (Nat.le_of_ble_eq_true rfl) ?_; intro aa hS
 obtain ⟨P, R, rg, nm, sz, r1, c1, r2, c2, r3, c3, r4, c4, hW, hR⟩ := hR.linksAE
 have hs1 := hW.s1
 have hs2 := hW.s2
 have hn1 := hW.n1
 have hn2 := hW.n2
 obtain ⟨hb1, hb2, hb3, hb4⟩ := hR.linksBk hn1
 refine wp_seq_k ?_; intro K171 hK171
 refine wp_region_lit ?_
 revert aa
 refine qN hR ?_
 refine qN hR ?_
 intro aa hS
 refine wpList_nil ?_
 refine hK171 _ _ ?_
 refine wp_seq_k ?_; intro K172 hK172
 refine wp_seq_k ?_; intro K173 hK173
 refine wp_region_lit ?_
 revert aa
 refine qM hR ?_
 refine qM hR ?_
 intro aa hS
 refine sB (Bcall hS rfl Tryz.call111 (lslot_ok (hR.pk (r := blk b _ _) pkQ) (by omega)) (by decide) ?_); clear hS; intro aa ww vv hS hp
 clear hR
 obtain ⟨rfl, hR⟩ := hp
 revert aa
 refine qA hR rfl (fun _ hS => Yld.not hS rfl) ?_
 refine qM hR ?_
 intro aa hS
 refine hS.splitB (t := 10) rfl ?_ ?_ <;> clear hS
 ·
  intro hg hS
  revert aa
  refine qZ ?_
  refine qZ ?_
  refine qZ ?_
  refine qZ ?_
  refine qZ ?_
  refine qZ ?_
  refine qZ ?_
  refine qZ ?_
  refine qZ ?_
  refine qA hR rfl (fun _ hS => Yld.pickT hS rfl rfl) ?_
  intro aa hS
  refine wpList_nil ?_
  refine hK173 _ _ ?_
  refine condT hS rfl ?_
  refine wp_seq_k ?_; intro K174 hK174
  refine wp_region_lit ?_
  revert aa
  refine qN hR ?_
  refine qN hR ?_
  intro aa hS
  refine wpList_nil ?_
  refine hK174 _ _ ?_
  refine wp_ret ?_
  repeat first | with_reducible refine thenR ?_ | with_reducible refine blockR ?_ | with_reducible refine scopeR ?_
  refine retN (fn := Tryz.f76) (e := .ret) (.inl rfl) Tryz.results76 hS hR ⟨_, .cons (.tmp rfl) (.cons (.tmp rfl) (.nil)), rfl, ?_⟩
  refine ⟨?_, Sep.linksAI (TL := 183) (TN := 180) (TI := 3) (b := b) hW rfl (hR.sub exQ)⟩
  first | (rw [ofS, if_neg (by omega)]; (try rfl); done) | (rw [ofS, if_pos (by omega), Int.toNat_natCast, hc2]; (try rfl); done)
 ·
  intro hg hS
  obtain ⟨x, rfl⟩ : ∃ z9 : Nat, x = z9 := ⟨(x).toNat, by omega⟩
  revert aa
  refine qMg hR ?_
  refine qAg hR rfl rfl rfl (fun _ hS => Yld.nilCheck hS rfl) ?_
  refine qAg hR rfl rfl rfl (fun _ hS => Yld.fieldAddr hS rfl 0 Tryz.underlying183 rfl rfl info181 (by decide)) ?_
  refine qAg hR rfl rfl rfl (fun _ hS => Yld.load1 hS rfl Tryz.underlying181 rfl rdQ) ?_
  refine qMg hR ?_
  refine qAg hR rfl rfl rfl (fun _ hS => ihQ 3 (x) Tryz.underlying181 info180) ?_
  refine qAg hR rfl rfl rfl (fun _ hS => Yld.fieldAddr hS rfl 2 Tryz.underlying180 rfl rfl info3 (by decide)) ?_
  refine qAg hR rfl rfl rfl (fun _ hS => Yld.load1 hS rfl Tryz.underlying3 rfl (Rd.rec (k := x) (j := 2) (v := .int .i64 (R x)) (xs := nods (S + n) P R) pkQ (by intro _; rfl) (by rw [nods_len]; omega) (by rw [nods_get]; rfl))) ?_
  refine qAg hR rfl rfl rfl (fun _ hS => Yld.lss hS rfl rfl) ?_
  refine qA hR rfl (fun _ hS => Yld.pickF hS rfl rfl) ?_
  intro aa hS
  refine wpList_nil ?_
  refine hK173 _ _ ?_
  refine hS.splitB (t := 20) rfl ?_ ?_ <;> clear hS
  ·
   intro hg hS
   rcases hW.cases (x := x) (by omega) with ⟨hc1, hc2, hc3⟩ | ⟨i, hi, hx, hc1, hc2⟩; rotate_left; · exfalso; omega
   refine condT hS rfl ?_
   refine wp_seq_k ?_; intro K175 hK175
   refine wp_region_lit ?_
   revert aa
   refine qN hR ?_
   refine qN hR ?_
   intro aa hS
   refine wpList_nil ?_
   refine hK175 _ _ ?_
   refine wp_ret ?_
   repeat first | with_reducible refine thenR ?_ | with_reducible refine blockR ?_ | with_reducible refine scopeR ?_
   refine retN (fn := Tryz.f76) (e := .ret) (.inl rfl) Tryz.results76 hS hR ⟨_, .cons (.tmp rfl) (.cons (.tmp rfl) (.nil)), rfl, ?_⟩
   refine ⟨?_, Sep.linksAI (TL := 183) (TN := 180) (TI := 3) (b := b) hW rfl (hR.sub exQ)⟩
   first | (rw [ofS, if_neg (by omega)]; (try rfl); done) | (rw [ofS, if_pos (by omega), Int.toNat_natCast, hc2]; (try rfl); done)
  ·
   intro hg hS
   rcases hW.cases (x := x) (by omega) with ⟨hc1, hc2, hc3⟩ | ⟨i, hi, hx, hc1, hc2⟩; · exfalso; omega
   have hri := hW.hrg i hi
   have hnm := hW.hnm i hi
   refine condF hS rfl ?_
   refine wp_skip ?_
   refine hK172 _ _ ?_
   refine wp_seq_k ?_; intro K176 hK176
   refine drawn krQ hR Ex.refl ?_; clear hR; intro ww hR hR0
   revert aa
   refine eA 0 rfl krQ (fun _ _ _ h => h) hR0 rfl (fun _ hS => Yld.move hS rfl) ?_
   refine eA 1 rfl krQ (fun _ _ _ h => h) hR0 rfl (fun _ hS => Yld.nilCheck hS rfl) ?_
   refine eA 2 rfl krQ (fun _ _ _ h => h) hR0 rfl (fun _ hS => Yld.fieldAddr hS rfl 3 Tryz.underlying183 rfl rfl info36 (by decide)) ?_
   refine eA 3 rfl krQ (fun _ _ _ h => h) hR0 rfl (fun _ hS => Yld.load1 hS rfl Tryz.underlying36 rfl rdQ) ?_
   refine eA 4 rfl krQ (fun _ _ _ h => h) hR0 rfl (fun _ hS => Yld.move hS rfl) ?_
   refine eA 5 rfl krQ (fun _ _ _ h => h) hR0 rfl (fun _ hS => Yld.nilCheck hS rfl) ?_
   refine eA 6 rfl krQ (fun _ _ _ h => h) hR0 rfl (fun _ hS => Yld.fieldAddr hS rfl 0 Tryz.underlying183 rfl rfl info181 (by decide)) ?_
   refine eA 7 rfl krQ (fun _ _ _ h => h) hR0 rfl (fun _ hS => Yld.load1 hS rfl Tryz.underlying181 rfl rdQ) ?_
   refine eA 8 rfl krQ (fun _ _ _ h => h) hR0 rfl (fun _ hS => Yld.move hS rfl) ?_
   refine eA 9 rfl krQ (fun _ _ _ h => h) hR0 rfl (fun _ hS => ihQ 3 (x) Tryz.underlying181 info180) ?_
   refine eA 10 rfl krQ (fun _ _ _ h => h) hR0 rfl (fun _ hS => Yld.fieldAddr hS rfl 2 Tryz.underlying180 rfl rfl info3 (by decide)) ?_
   refine eA 11 rfl krQ (fun _ _ _ h => h) hR0 rfl (fun _ hS => Yld.load1 hS rfl Tryz.underlying3 rfl (Rd.rec (k := x) (j := 2) (v := .int .i64 (R x)) (xs := nods (S + n) P R) pkQ (by intro _; rfl) (by rw [nods_len]; omega) (by rw [nods_get]; rfl))) ?_
   intro aa hS
   replace hS := hS.say (t := 32) (.int .i64 ((rg i : Nat) : Int)) rfl (by rw [hc1])
   revert aa
   refine eA 12 rfl krQ (fun _ _ _ h => h) hR0 rfl (fun _ hS => ihQ 1 (rg i) Tryz.underlying36 info3) ?_
   refine eA 13 rfl krQ (fun _ _ _ h => h) hR0 rfl (fun _ hS => Yld.load1 hS rfl Tryz.underlying3 rfl (Rd.rec0 (k := (rg i)) (v := .int .i64 ((nm (rg i) : Nat) : Int)) (xs := tabN n nm) pkQ (by intro _; rfl) (by rw [tabN_len]; omega) (by rw [tabN_get]; rfl))) ?_
   intro aa hS
   rw [hnm] at hS
   revert aa
   refine eA 14 rfl krQ (fun _ _ _ h => h) hR0 rfl (fun _ hS => Yld.assign hS rfl) ?_
   refine eA 15 rfl krQ (fun _ _ _ h => h) hR0 rfl (fun _ hS => Yld.assign hS rfl) ?_
   intro aa hS
   refine wpAnyH_done krQ ?_ _; clear hR0
   refine hK176 _ _ ?_
   refine wp_ret ?_
   repeat first | with_reducible refine thenR ?_ | with_reducible refine blockR ?_ | with_reducible refine scopeR ?_
   refine retN (fn := Tryz.f76) (e := .ret) (.inl rfl) Tryz.results76 hS hR ⟨_, .cons (.tmp rfl) (.cons (.tmp rfl) (.nil)), rfl, ?_⟩
   refine ⟨?_, Sep.linksAI (TL := 183) (TN := 180) (TI := 3) (b := b) hW rfl (hR.sub exQ)⟩
   first | (rw [ofS, if_neg (by omega)]; (try rfl); done) | (rw [ofS, if_pos (by omega), Int.toNat_natCast, hc2]; (try rfl); done)
theorem Lend_ok {S n b : Nat} {L : Nat → List Nat} {l : List HP} {w : World} {x : Int} {w9 : Nat} (hR : Sep (linksA 183 180 3 b S n L :: l) w) (hw : w9 < 2) : CallR Tryz.prog 123 [.pointer (some ⟨b, 0, none⟩), .int .i64 x, .int .i64 (w9 : Int)] w (fun v w' => v = optV (endS n L w9 x) ∧ Sep (linksA 183 180 3 b S n L :: l) w') := by
 refine enter Tryz.func123 rfl Tryz.ntmps123 (Nat.le_of_ble_eq_true rfl) ?_; intro aa hS
 obtain ⟨P, R, rg, nm, sz, r1, c1, r2, c2, r3, c3, r4, c4, hW, hR⟩ := hR.linksAE
 have hs1 := hW.s1
 have hs2 := hW.s2
 have hn1 := hW.n1
 have hn2 := hW.n2
 obtain ⟨hb1, hb2, hb3, hb4⟩ := hR.linksBk hn1
 refine wp_seq_k ?_; intro K177 hK177
 refine wp_region_lit ?_
 revert aa
 refine qN hR ?_
 refine qN hR ?_
 intro aa hS
 refine wpList_nil ?_
 refine hK177 _ _ ?_
 refine wp_seq_k ?_; intro K178 hK178
 refine wp_seq_k ?_; intro K179 hK179
 refine wp_region_lit ?_
 revert aa
 refine qM hR ?_
 refine qM hR ?_
 intro aa hS
 refine sB (Bcall hS rfl Tryz.call122 (llist_ok (hR.pk (r := blk b _ _) pkQ) (by omega)) (by decide) ?_); clear hS; intro aa ww vv hS hp
 clear hR
 obtain ⟨rfl, hR⟩ := hp
 refine sA hS hR (Yld.not hS rfl) (by decide) ?_; clear hS; intro aa hS
 refine wpList_nil ?_
 refine hK179 _ _ ?_
 refine hS.splitB (t := 11) rfl ?_ ?_ <;> clear hS
 ·
  intro hg hS
  refine condT hS rfl ?_
  refine wp_seq_k ?_; intro K180 hK180
  refine wp_region_lit ?_
  revert aa
  refine qN hR ?_
  refine qN hR ?_
  intro aa hS
  refine wpList_nil ?_
  refine hK180 _ _ ?_
  refine wp_ret ?_
  repeat first | with_reducible refine thenR ?_ | with_reducible refine blockR ?_ | with_reducible refine scopeR ?_
  refine retN (fn := Tryz.f123) (e := .ret) (.inl rfl) Tryz.results123 hS hR ⟨_, .cons (.tmp rfl) (.cons (.tmp rfl) (.nil)), rfl, ?_⟩
  exact ⟨by rw [endS, if_neg (by omega)]; (try rfl); done, Sep.linksAI (TL := 183) (TN := 180) (TI := 3) (b := b) hW rfl (hR.sub exQ)⟩
 ·
  intro hg hS
  obtain ⟨x, rfl⟩ : ∃ z9 : Nat, x = z9 := ⟨(x).toNat, by omega⟩
  have hxn : x < n := by omega
  have hri := hW.hrg x hxn
  refine condF hS rfl ?_
  refine wp_skip ?_
  refine hK178 _ _ ?_
  refine wp_seq_k ?_; intro K181 hK181
  refine drawn krQ hR Ex.refl ?_; clear hR; intro ww hR hR0
  revert aa
  refine eA 0 rfl krQ (fun _ _ _ h => h) hR0 rfl (fun _ hS => Yld.move hS rfl) ?_
  refine eA 1 rfl krQ (fun _ _ _ h => h) hR0 rfl (fun _ hS => Yld.move hS rfl) ?_
  refine eA 2 rfl krQ (fun _ _ _ h => h) hR0 rfl (fun _ hS => Yld.nilCheck hS rfl) ?_
  refine eA 3 rfl krQ (fun _ _ _ h => h) hR0 rfl (fun _ hS => Yld.fieldAddr hS rfl 1 Tryz.underlying183 rfl rfl info3 (by decide)) ?_
  refine eA 4 rfl krQ (fun _ _ _ h => h) hR0 rfl (fun _ hS => Yld.load1 hS rfl Tryz.underlying3 rfl rdQ) ?_
  refine eA 5 rfl krQ (fun _ _ _ h => h) hR0 rfl (fun _ hS => Yld.move hS rfl) ?_
  refine eA 6 rfl krQ (fun _ _ _ h => h) hR0 rfl (fun _ hS => Yld.nilCheck hS rfl) ?_
  refine eA 7 rfl krQ (fun _ _ _ h => h) hR0 rfl (fun _ hS => Yld.fieldAddr hS rfl 2 Tryz.underlying183 rfl rfl info36 (by decide)) ?_
  refine eA 8 rfl krQ (fun _ _ _ h => h) hR0 rfl (fun _ hS => Yld.load1 hS rfl Tryz.underlying36 rfl rdQ) ?_
  refine eA 9 rfl krQ (fun _ _ _ h => h) hR0 rfl (fun _ hS => Yld.move hS rfl) ?_
  refine eA 10 rfl krQ (fun _ _ _ h => h) hR0 rfl (fun _ hS => ihQ 1 (x) Tryz.underlying36 info3) ?_
  refine eA 11 rfl krQ (fun _ _ _ h => h) hR0 rfl (fun _ hS => Yld.load1 hS rfl Tryz.underlying3 rfl (Rd.rec0 (k := x) (v := .int .i64 ((rg x : Nat) : Int)) (xs := tabN n rg) pkQ (by intro _; rfl) (by rw [tabN_len]; omega) (by rw [tabN_get]; rfl))) ?_
  intro aa hS
  refine dA 12 rfl krQ krQ krQ (fun _ _ _ h => h) hS hR0 adQ (by decide) ?_; clear hS; intro aa hS
  replace hS := hS.say (t := 24) (.int .i64 ((S + rg x : Nat) : Int)) rfl (by rw [Int.natCast_add])
  revert aa
  refine eA 13 rfl krQ (fun _ _ _ h => h) hR0 rfl (fun _ hS => Yld.move hS rfl) ?_
  intro aa hS
  refine dOne (i := 14) krQ ?_
  refine dop rfl (Bcall hS rfl Tryz.call138 (lbeside_ok ((hR.pk (r := sls r1 _ _ _ _ _) pkQ).pk (r := blk b _ _) pkQ) hb1 (by omega) hw) (by decide) ?_); clear hS; intro aa ww vv hS hp
  clear hR hR0
  obtain ⟨rfl, hR⟩ := hp
  refine dnext (hR.sub exQ) ?_; intro hR0
  revert aa
  refine eA 15 rfl krQ (fun _ _ _ h => h) hR0 rfl (fun _ hS => Yld.extract hS rfl rfl) ?_
  refine eA 16 rfl krQ (fun _ _ _ h => h) hR0 rfl (fun _ hS => Yld.extract hS rfl rfl) ?_
  refine eA 17 rfl krQ (fun _ _ _ h => h) hR0 rfl (fun _ hS => Yld.assign hS rfl) ?_
  refine eA 18 rfl krQ (fun _ _ _ h => h) hR0 rfl (fun _ hS => Yld.assign hS rfl) ?_
  intro aa hS
  refine wpAnyH_done krQ ?_ _; clear hR0
  refine hK181 _ _ ?_
  refine wp_ret ?_
  repeat first | with_reducible refine thenR ?_ | with_reducible refine blockR ?_ | with_reducible refine scopeR ?_
  refine retN (fn := Tryz.f123) (e := .ret) (.inl rfl) Tryz.results123 hS hR ⟨_, .cons (.tmp rfl) (.cons (.tmp rfl) (.nil)), rfl, ?_⟩
  refine ⟨?_, Sep.linksAI (TL := 183) (TN := 180) (TI := 3) (b := b) hW rfl (hR.sub exQ)⟩
  rw [endS, if_pos (show 0 ≤ (x : Int) ∧ (x : Int) < n by omega), Int.toNat_natCast]
  rcases hW.firstE hw hxn with ⟨h1, h2⟩ | ⟨y, h1, h2, h3⟩
  ·
   rw [h1, if_neg h2]; (try rfl); done
  ·
   rw [h1, h2, if_pos h3]; (try rfl); done
theorem Lstep_ok {S n b : Nat} {L : Nat → List Nat} {l : List HP} {w : World} {x : Int} {w9 : Nat} (hR : Sep (linksA 183 180 3 b S n L :: l) w) (hw : w9 < 2) : CallR Tryz.prog 143 [.pointer (some ⟨b, 0, none⟩), .int .i64 x, .int .i64 (w9 : Int)] w (fun v w' => v = optV (stepS S n L w9 x) ∧ Sep (linksA 183 180 3 b S n L :: l) w') := by
 refine enter Tryz.func143 rfl Tryz.ntmps143 (Nat.le_of_ble_eq_true rfl) ?_; intro aa hS
 refine wp_seq_k ?_; intro K182 hK182
 refine wp_region_lit ?_
 revert aa
 refine qN hR ?_
 refine qN hR ?_
 intro aa hS
 refine wpList_nil ?_
 refine hK182 _ _ ?_
 refine wp_seq_k ?_; intro K183 hK183
 refine wp_seq_k ?_; intro K184 hK184
 refine wp_region_lit ?_
 revert aa
 refine qM hR ?_
 refine qM hR ?_
 intro aa hS
 refine sB (Bcall hS rfl Tryz.call76 (LOf_ok (hR.pk (r := linksA _ _ _ _ _ _ _) pkQ)) (by decide) ?_); clear hS; intro aa ww vv hS hp
 clear hR
 obtain ⟨rfl, hR⟩ := hp
 revert aa
 refine qM hR ?_
 refine qX hR ?_
 refine qX hR ?_
 refine qN hR ?_
 refine qN hR ?_
 intro aa hS
 refine wpList_nil ?_
 refine hK184 _ _ ?_
 refine wp_seq_k ?_; intro K185 hK185
 refine wp_region_lit ?_
 revert aa
 refine qM hR ?_
 refine qA hR rfl (fun _ hS => Yld.not hS rfl) ?_
 intro aa hS
 refine wpList_nil ?_
 refine hK185 _ _ ?_
 refine hS.splitB (t := 17) rfl ?_ ?_ <;> clear hS
 ·
  intro hg hS
  have hno : ofS S n L x = none := by cases e : ofS S n L x with
   | none => rfl
   | some y => rw [e] at hg; simp at hg
  refine condT hS rfl ?_
  refine wp_seq_k ?_; intro K186 hK186
  refine wp_region_lit ?_
  revert aa
  refine qN hR ?_
  refine qN hR ?_
  intro aa hS
  refine wpList_nil ?_
  refine hK186 _ _ ?_
  refine wp_ret ?_
  repeat first | with_reducible refine thenR ?_ | with_reducible refine blockR ?_ | with_reducible refine scopeR ?_
  refine retN (fn := Tryz.f143) (e := .ret) (.inl rfl) Tryz.results143 hS hR ⟨_, .cons (.tmp rfl) (.cons (.tmp rfl) (.nil)), rfl, ?_⟩
  exact ⟨by rw [stepS, hno]; (try rfl); done, (hR.sub exQ)⟩
 ·
  intro hg hS
  obtain ⟨i, hi0⟩ := Option.isSome_iff_exists.1 hg
  have hx0 : 0 ≤ x ∧ x < S := by
   by_cases h : 0 ≤ x ∧ x < S
   ·
    exact h
   ·
    rw [ofS, if_neg h] at hi0; cases hi0
  obtain ⟨x, rfl⟩ : ∃ z9 : Nat, x = z9 := ⟨(x).toNat, by omega⟩
  have hi1 := hi0
  rw [ofS, if_pos hx0, Int.toNat_natCast] at hi1
  have hi := (ofL_mem hi1).1
  have hx := (ofL_mem hi1).2
  obtain ⟨P, R, rg, nm, sz, r1, c1, r2, c2, r3, c3, r4, c4, hW, hR⟩ := hR.linksAE
  have hs1 := hW.s1
  have hs2 := hW.s2
  have hn1 := hW.n1
  have hn2 := hW.n2
  obtain ⟨hb1, hb2, hb3, hb4⟩ := hR.linksBk hn1
  refine condF hS rfl ?_
  refine wp_skip ?_
  refine hK183 _ _ ?_
  refine wp_seq_k ?_; intro K187 hK187
  refine wp_region_lit ?_
  revert aa
  refine qM hR ?_
  refine qM hR ?_
  refine qM hR ?_
  intro aa hS
  refine sB (Bcall hS rfl Tryz.call138 (lbeside_ok ((hR.pk (r := sls r1 _ _ _ _ _) pkQ).pk (r := blk b _ _) pkQ) hb1 (by omega) hw) (by decide) ?_); clear hS; intro aa ww vv hS hp
  clear hR
  obtain ⟨rfl, hR⟩ := hp
  revert aa
  refine qX hR ?_
  refine qX hR ?_
  refine qN hR ?_
  refine qN hR ?_
  intro aa hS
  refine wpList_nil ?_
  refine hK187 _ _ ?_
  refine wp_ret ?_
  repeat first | with_reducible refine thenR ?_ | with_reducible refine blockR ?_ | with_reducible refine scopeR ?_
  refine retN (fn := Tryz.f143) (e := .ret) (.inl rfl) Tryz.results143 hS hR ⟨_, .cons (.tmp rfl) (.cons (.tmp rfl) (.nil)), rfl, ?_⟩
  refine ⟨?_, Sep.linksAI (TL := 183) (TN := 180) (TI := 3) (b := b) hW rfl (hR.sub exQ)⟩
  rw [stepS, hi0]
  dsimp only
  rw [Int.toNat_natCast]
  rcases hW.nextE hw hi hx with ⟨h1, h2⟩ | ⟨y, h1, h2, h3⟩
  ·
   rw [h1, if_neg h2]; (try rfl); done
  ·
   rw [h1, h2, if_pos h3]; (try rfl); done
theorem LFirst_ok {S n b : Nat} {L : Nat → List Nat} {l : List HP} {w : World} {x : Int} (hR : Sep (linksA 183 180 3 b S n L :: l) w) : CallR Tryz.prog 94 [.pointer (some ⟨b, 0, none⟩), .int .i64 x] w (fun v w' => v = optV (endS n L 0 x) ∧ Sep (linksA 183 180 3 b S n L :: l) w') := by
 refine enter Tryz.func94 rfl Tryz.ntmps94 (Nat.le_of_ble_eq_true rfl) ?_; intro aa hS
 refine wp_seq_k ?_; intro K188 hK188
 refine wp_region_lit ?_
 revert aa
 refine qN hR ?_
 refine qN hR ?_
 intro aa hS
 refine wpList_nil ?_
 refine hK188 _ _ ?_
 refine wp_seq_k ?_; intro K189 hK189
 refine wp_region_lit ?_
 revert aa
 refine qM hR ?_
 refine qM hR ?_
 intro aa hS
 refine sB (Bcall hS rfl Tryz.call123 (Lend_ok (w9 := 0) (hR.pk (r := linksA _ _ _ _ _ _ _) pkQ) (by omega)) (by decide) ?_); clear hS; intro aa ww vv hS hp
 clear hR
 obtain ⟨rfl, hR⟩ := hp
 revert aa
 refine qX hR ?_
 refine qX hR ?_
 refine qN hR ?_
 refine qN hR ?_
 intro aa hS
 refine wpList_nil ?_
 refine hK189 _ _ ?_
 refine wp_ret ?_
 repeat first | with_reducible refine thenR ?_ | with_reducible refine blockR ?_ | with_reducible refine scopeR ?_
 refine retN (fn := Tryz.f94) (e := .ret) (.inl rfl) Tryz.results94 hS hR ⟨_, .cons (.tmp rfl) (.cons (.tmp rfl) (.nil)), rfl, ?_⟩
 exact ⟨rfl, (hR.sub exQ)⟩
theorem LNext_ok {S n b : Nat} {L : Nat → List Nat} {l : List HP} {w : World} {x : Int} (hR : Sep (linksA 183 180 3 b S n L :: l) w) : CallR Tryz.prog 136 [.pointer (some ⟨b, 0, none⟩), .int .i64 x] w (fun v w' => v = optV (stepS S n L 0 x) ∧ Sep (linksA 183 180 3 b S n L :: l) w') := by
 refine enter Tryz.func136 rfl Tryz.ntmps136 (Nat.le_of_ble_eq_true rfl) ?_; intro aa hS
 refine wp_seq_k ?_; intro K190 hK190
 refine wp_region_lit ?_
 revert aa
 refine qN hR ?_
 refine qN hR ?_
 intro aa hS
 refine wpList_nil ?_
 refine hK190 _ _ ?_
 refine wp_seq_k ?_; intro K191 hK191
 refine wp_region_lit ?_
 revert aa
 refine qM hR ?_
 refine qM hR ?_
 intro aa hS
 refine sB (Bcall hS rfl Tryz.call143 (Lstep_ok (w9 := 0) (hR.pk (r := linksA _ _ _ _ _ _ _) pkQ) (by omega)) (by decide) ?_); clear hS; intro aa ww vv hS hp
 clear hR
 obtain ⟨rfl, hR⟩ := hp
 revert aa
 refine qX hR ?_
 refine qX hR ?_
 refine qN hR ?_
 refine qN hR ?_
 intro aa hS
 refine wpList_nil ?_
 refine hK191 _ _ ?_
 refine wp_ret ?_
 repeat first | with_reducible refine thenR ?_ | with_reducible refine blockR ?_ | with_reducible refine scopeR ?_
 refine retN (fn := Tryz.f136) (e := .ret) (.inl rfl) Tryz.results136 hS hR ⟨_, .cons (.tmp rfl) (.cons (.tmp rfl) (.nil)), rfl, ?_⟩
 exact ⟨rfl, (hR.sub exQ)⟩
theorem LLen_ok {S n b : Nat} {L : Nat → List Nat} {l : List HP} {w : World} {x : Int} (hR : Sep (linksA 183 180 3 b S n L :: l) w) : CallR Tryz.prog 93 [.pointer (some ⟨b, 0, none⟩), .int .i64 x] w (fun v w' => v = .int .i64 ((allS n L x).length : Int) ∧ Sep (linksA 183 180 3 b S n L :: l) w') := by
 refine enter Tryz.func93 rfl Tryz.ntmps93 (Nat.le_of_ble_eq_true rfl) ?_; intro aa hS
 obtain ⟨P, R, rg, nm, sz, r1, c1, r2, c2, r3, c3, r4, c4, hW, hR⟩ := hR.linksAE
 have hs1 := hW.s1
 have hs2 := hW.s2
 have hn1 := hW.n1
 have hn2 := hW.n2
 obtain ⟨hb1, hb2, hb3, hb4⟩ := hR.linksBk hn1
 refine wp_seq_k ?_; intro K192 hK192
 refine wp_region_lit ?_
 revert aa
 refine qN hR ?_
 intro aa hS
 refine wpList_nil ?_
 refine hK192 _ _ ?_
 refine wp_seq_k ?_; intro K193 hK193
 refine wp_seq_k ?_; intro K194 hK194
 refine wp_region_lit ?_
 revert aa
 refine qM hR ?_
 refine qM hR ?_
 intro aa hS
 refine sB (Bcall hS rfl Tryz.call122 (llist_ok (hR.pk (r := blk b _ _) pkQ) (by omega)) (by decide) ?_); clear hS; intro aa ww vv hS hp
 clear hR
 obtain ⟨rfl, hR⟩ := hp
 refine sA hS hR (Yld.not hS rfl) (by decide) ?_; clear hS; intro aa hS
 refine wpList_nil ?_
 refine hK194 _ _ ?_
 refine hS.splitB (t := 8) rfl ?_ ?_ <;> clear hS
 ·
  intro hg hS
  refine condT hS rfl ?_
  refine wp_seq_k ?_; intro K195 hK195
  refine wp_region_lit ?_
  revert aa
  refine qN hR ?_
  intro aa hS
  refine wpList_nil ?_
  refine hK195 _ _ ?_
  refine wp_ret ?_
  repeat first | with_reducible refine thenR ?_ | with_reducible refine blockR ?_ | with_reducible refine scopeR ?_
  refine ret1 (fn := Tryz.f93) (e := .ret) (.inl rfl) Tryz.results93 hS hR ⟨_, (.tmp rfl), ?_⟩
  refine ⟨?_, Sep.linksAI (TL := 183) (TN := 180) (TI := 3) (b := b) hW rfl (hR.sub exQ)⟩
  first | (rw [allS, if_neg (by omega)]; rfl) | (rw [allS, if_pos (by omega), Int.toNat_natCast]; (try rfl); done)
 ·
  intro hg hS
  obtain ⟨x, rfl⟩ : ∃ z9 : Nat, x = z9 := ⟨(x).toNat, by omega⟩
  have hxn : x < n := by omega
  have hri := hW.hrg x hxn
  refine condF hS rfl ?_
  refine wp_skip ?_
  refine hK193 _ _ ?_
  refine wp_seq_k ?_; intro K196 hK196
  refine drawn krQ hR Ex.refl ?_; clear hR; intro ww hR hR0
  revert aa
  refine eA 0 rfl krQ (fun _ _ _ h => h) hR0 rfl (fun _ hS => Yld.move hS rfl) ?_
  refine eA 1 rfl krQ (fun _ _ _ h => h) hR0 rfl (fun _ hS => Yld.nilCheck hS rfl) ?_
  refine eA 2 rfl krQ (fun _ _ _ h => h) hR0 rfl (fun _ hS => Yld.fieldAddr hS rfl 4 Tryz.underlying183 rfl rfl info36 (by decide)) ?_
  refine eA 3 rfl krQ (fun _ _ _ h => h) hR0 rfl (fun _ hS => Yld.load1 hS rfl Tryz.underlying36 rfl rdQ) ?_
  refine eA 4 rfl krQ (fun _ _ _ h => h) hR0 rfl (fun _ hS => Yld.move hS rfl) ?_
  refine eA 5 rfl krQ (fun _ _ _ h => h) hR0 rfl (fun _ hS => Yld.nilCheck hS rfl) ?_
  refine eA 6 rfl krQ (fun _ _ _ h => h) hR0 rfl (fun _ hS => Yld.fieldAddr hS rfl 2 Tryz.underlying183 rfl rfl info36 (by decide)) ?_
  refine eA 7 rfl krQ (fun _ _ _ h => h) hR0 rfl (fun _ hS => Yld.load1 hS rfl Tryz.underlying36 rfl rdQ) ?_
  refine eA 8 rfl krQ (fun _ _ _ h => h) hR0 rfl (fun _ hS => Yld.move hS rfl) ?_
  refine eA 9 rfl krQ (fun _ _ _ h => h) hR0 rfl (fun _ hS => ihQ 1 (x) Tryz.underlying36 info3) ?_
  refine eA 10 rfl krQ (fun _ _ _ h => h) hR0 rfl (fun _ hS => Yld.load1 hS rfl Tryz.underlying3 rfl (Rd.rec0 (k := x) (v := .int .i64 ((rg x : Nat) : Int)) (xs := tabN n rg) pkQ (by intro _; rfl) (by rw [tabN_len]; omega) (by rw [tabN_get]; rfl))) ?_
  refine eA 11 rfl krQ (fun _ _ _ h => h) hR0 rfl (fun _ hS => ihQ 1 (rg x) Tryz.underlying36 info3) ?_
  refine eA 12 rfl krQ (fun _ _ _ h => h) hR0 rfl (fun _ hS => Yld.load1 hS rfl Tryz.underlying3 rfl (Rd.rec0 (k := (rg x)) (v := .int .i64 ((sz (rg x) : Nat) : Int)) (xs := tabN n sz) pkQ (by intro _; rfl) (by rw [tabN_len]; omega) (by rw [tabN_get]; rfl))) ?_
  intro aa hS
  rw [hW.hsz x hxn] at hS
  revert aa
  refine eA 13 rfl krQ (fun _ _ _ h => h) hR0 rfl (fun _ hS => Yld.assign hS rfl) ?_
  intro aa hS
  refine wpAnyH_done krQ ?_ _; clear hR0
  refine hK196 _ _ ?_
  refine wp_ret ?_
  repeat first | with_reducible refine thenR ?_ | with_reducible refine blockR ?_ | with_reducible refine scopeR ?_
  refine ret1 (fn := Tryz.f93) (e := .ret) (.inl rfl) Tryz.results93 hS hR ⟨_, (.tmp rfl), ?_⟩
  refine ⟨?_, Sep.linksAI (TL := 183) (TN := 180) (TI := 3) (b := b) hW rfl (hR.sub exQ)⟩
  first | (rw [allS, if_neg (by omega)]; rfl) | (rw [allS, if_pos (by omega), Int.toNat_natCast]; (try rfl); done)
end Go.Proofs.YtkhdejjompbklaaGreat.Sx
