/-
 
-/
import Derived.Test.YtkhdejjompbklaaGreatOArB
import Derived.Test.YtkhdejjompbklaaGreatOPb
import Derived.Test.YtkhdejjompbklaaGreatOPl
namespace Go.Proofs.YtkhdejjompbklaaGreat.Sx
open Go
set_option maxRecDepth 20000
set_option linter.unusedVariables false
set_option linter.unusedSimpArgs false
theorem info36 : Tryz.prog.info? 36 = some Tryz.t36 := by kernel_rfl
theorem info178 : Tryz.prog.info? 178 = some Tryz.t178 := by kernel_rfl
theorem info180 : Tryz.prog.info? 180 = some Tryz.t180 := by kernel_rfl
theorem info181 : Tryz.prog.info? 181 = some Tryz.t181 := by kernel_rfl
theorem lsome_ok {S n : Nat} {b : Nat} {r1 r2 r3 r4 : Option Addr} {c1 c2 c3 c4 : Nat} {l : List HP} {w : World} (hR : Sep (blk b [.slice r1 (S + n) c1, .int .i64 (S : Int), .slice r2 n c2, .slice r3 n c3, .slice r4 n c4] 183 :: l) w) (hp : 0 < S) : CallR Tryz.prog 130 [.pointer (some ⟨b, 0, none⟩)] w (fun v w' => v = .bool true ∧ Sep (blk b [.slice r1 (S + n) c1, .int .i64 (S : Int), .slice r2 n c2, .slice r3 n c3, .slice r4 n c4] 183 :: l) w') := by
 refine enter Tryz.func130 rfl Tryz.ntmps130 (Nat.le_of_ble_eq_true rfl) ?_; intro aa hS
 refine wp_seq_k ?_; intro K157 hK157
 refine wp_region_lit ?_
 revert aa
 refine qN hR ?_
 intro aa hS
 refine wpList_nil ?_
 refine hK157 _ _ ?_
 refine wp_seq_k ?_; intro K158 hK158
 refine wp_region_lit ?_
 revert aa
 refine qM hR ?_
 refine qA hR rfl (fun _ hS => Yld.neqNil hS rfl rfl Tryz.underlying123) ?_
 refine qB (t := 4) true rfl (by rfl) ?_
 refine qM hR ?_
 refine qMg hR ?_
 refine qAg hR rfl rfl rfl (fun _ hS => Yld.nilCheck hS rfl) ?_
 refine qAg hR rfl rfl rfl (fun _ hS => Yld.fieldAddr hS rfl 1 Tryz.underlying183 rfl rfl info3 (by decide)) ?_
 refine qAg hR rfl rfl rfl (fun _ hS => Yld.load1 hS rfl Tryz.underlying3 rfl rdQ) ?_
 refine qAg hR rfl rfl rfl (fun _ hS => Yld.gtr hS rfl rfl) ?_
 refine qA hR rfl (fun _ hS => Yld.pickT hS rfl rfl) ?_
 refine qB (t := 11) true rfl (by exact decide_eq_true (by omega)) ?_
 refine qN hR ?_
 intro aa hS
 refine wpList_nil ?_
 refine hK158 _ _ ?_
 refine wp_ret ?_
 repeat first | with_reducible refine thenR ?_ | with_reducible refine blockR ?_ | with_reducible refine scopeR ?_
 refine ret1 (fn := Tryz.f130) (e := .ret) (.inl rfl) Tryz.results130 hS hR ⟨_, (.tmp rfl), ?_⟩
 exact ⟨rfl, (hR.sub exQ)⟩
theorem llist_ok {S n : Nat} {b : Nat} {r1 r2 r3 r4 : Option Addr} {c1 c2 c3 c4 : Nat} {l : List HP} {w : World} {i : Int} (hR : Sep (blk b [.slice r1 (S + n) c1, .int .i64 (S : Int), .slice r2 n c2, .slice r3 n c3, .slice r4 n c4] 183 :: l) w) (hp : 0 < S) : CallR Tryz.prog 122 [.pointer (some ⟨b, 0, none⟩), .int .i64 i] w (fun v w' => v = .bool (decide (0 ≤ i ∧ i < n)) ∧ Sep (blk b [.slice r1 (S + n) c1, .int .i64 (S : Int), .slice r2 n c2, .slice r3 n c3, .slice r4 n c4] 183 :: l) w') := by
 refine enter Tryz.func122 rfl Tryz.ntmps122 (Nat.le_of_ble_eq_true rfl) ?_; intro aa hS
 refine wp_seq_k ?_; intro K159 hK159
 refine wp_region_lit ?_
 revert aa
 refine qN hR ?_
 intro aa hS
 refine wpList_nil ?_
 refine hK159 _ _ ?_
 refine wp_seq_k ?_; intro K160 hK160
 refine wp_region_lit ?_
 revert aa
 refine qM hR ?_
 intro aa hS
 refine sB (Bcall hS rfl Tryz.call130 (lsome_ok (hR.pk (r := blk b _ _) pkQ) (by omega)) (by decide) ?_); clear hS; intro aa ww vv hS hp
 clear hR
 obtain ⟨rfl, hR⟩ := hp
 revert aa
 refine qM hR ?_
 refine qMg hR ?_
 refine qAg hR rfl rfl rfl (fun _ hS => Yld.geq hS rfl rfl) ?_
 refine qA hR rfl (fun _ hS => Yld.pickT hS rfl rfl) ?_
 refine qM hR ?_
 intro aa hS
 refine hS.splitB (t := 11) rfl ?_ ?_ <;> clear hS
 ·
  intro hg hS
  revert aa
  refine qMg hR ?_
  refine qMg hR ?_
  refine qAg hR rfl rfl rfl (fun _ hS => Yld.nilCheck hS rfl) ?_
  refine qAg hR rfl rfl rfl (fun _ hS => Yld.fieldAddr hS rfl 2 Tryz.underlying183 rfl rfl info36 (by decide)) ?_
  refine qAg hR rfl rfl rfl (fun _ hS => Yld.load1 hS rfl Tryz.underlying36 rfl rdQ) ?_
  refine qAg hR rfl rfl rfl (fun _ hS => Yld.len hS rfl Tryz.underlying36) ?_
  refine qAg hR rfl rfl rfl (fun _ hS => Yld.lss hS rfl rfl) ?_
  refine qA hR rfl (fun _ hS => Yld.pickT hS rfl rfl) ?_
  refine qN hR ?_
  intro aa hS
  refine wpList_nil ?_
  refine hK160 _ _ ?_
  refine wp_ret ?_
  repeat first | with_reducible refine thenR ?_ | with_reducible refine blockR ?_ | with_reducible refine scopeR ?_
  refine ret1 (fn := Tryz.f122) (e := .ret) (.inl rfl) Tryz.results122 hS hR ⟨_, (.tmp rfl), ?_⟩
  refine ⟨?_, (hR.sub exQ)⟩
  first | exact dec_iff (by constructor <;> intro h <;> omega) | exact dec_no (by omega)| exact dec_yes (by omega)
 ·
  intro hg hS
  revert aa
  refine qZ ?_
  refine qZ ?_
  refine qZ ?_
  refine qZ ?_
  refine qZ ?_
  refine qZ ?_
  refine qZ ?_
  refine qA hR rfl (fun _ hS => Yld.pickF hS rfl rfl) ?_
  refine qN hR ?_
  intro aa hS
  refine wpList_nil ?_
  refine hK160 _ _ ?_
  refine wp_ret ?_
  repeat first | with_reducible refine thenR ?_ | with_reducible refine blockR ?_ | with_reducible refine scopeR ?_
  refine ret1 (fn := Tryz.f122) (e := .ret) (.inl rfl) Tryz.results122 hS hR ⟨_, (.tmp rfl), ?_⟩
  refine ⟨?_, (hR.sub exQ)⟩
  first | exact dec_iff (by constructor <;> intro h <;> omega) | exact dec_no (by omega)| exact dec_yes (by omega)
theorem lslot_ok {S n : Nat} {b : Nat} {r1 r2 r3 r4 : Option Addr} {c1 c2 c3 c4 : Nat} {l : List HP} {w : World} {i : Int} (hR : Sep (blk b [.slice r1 (S + n) c1, .int .i64 (S : Int), .slice r2 n c2, .slice r3 n c3, .slice r4 n c4] 183 :: l) w) (hp : 0 < S) : CallR Tryz.prog 111 [.pointer (some ⟨b, 0, none⟩), .int .i64 i] w (fun v w' => v = .bool (decide (0 ≤ i ∧ i < S)) ∧ Sep (blk b [.slice r1 (S + n) c1, .int .i64 (S : Int), .slice r2 n c2, .slice r3 n c3, .slice r4 n c4] 183 :: l) w') := by
 refine enter Tryz.func111 rfl Tryz.ntmps111 (Nat.le_of_ble_eq_true rfl) ?_; intro aa hS
 refine wp_seq_k ?_; intro K161 hK161
 refine wp_region_lit ?_
 revert aa
 refine qN hR ?_
 intro aa hS
 refine wpList_nil ?_
 refine hK161 _ _ ?_
 refine wp_seq_k ?_; intro K162 hK162
 refine wp_region_lit ?_
 revert aa
 refine qM hR ?_
 intro aa hS
 refine sB (Bcall hS rfl Tryz.call130 (lsome_ok (hR.pk (r := blk b _ _) pkQ) (by omega)) (by decide) ?_); clear hS; intro aa ww vv hS hp
 clear hR
 obtain ⟨rfl, hR⟩ := hp
 revert aa
 refine qM hR ?_
 refine qMg hR ?_
 refine qAg hR rfl rfl rfl (fun _ hS => Yld.geq hS rfl rfl) ?_
 refine qA hR rfl (fun _ hS => Yld.pickT hS rfl rfl) ?_
 refine qM hR ?_
 intro aa hS
 refine hS.splitB (t := 11) rfl ?_ ?_ <;> clear hS
 ·
  intro hg hS
  revert aa
  refine qMg hR ?_
  refine qMg hR ?_
  refine qAg hR rfl rfl rfl (fun _ hS => Yld.nilCheck hS rfl) ?_
  refine qAg hR rfl rfl rfl (fun _ hS => Yld.fieldAddr hS rfl 1 Tryz.underlying183 rfl rfl info3 (by decide)) ?_
  refine qAg hR rfl rfl rfl (fun _ hS => Yld.load1 hS rfl Tryz.underlying3 rfl rdQ) ?_
  refine qAg hR rfl rfl rfl (fun _ hS => Yld.lss hS rfl rfl) ?_
  refine qA hR rfl (fun _ hS => Yld.pickT hS rfl rfl) ?_
  refine qN hR ?_
  intro aa hS
  refine wpList_nil ?_
  refine hK162 _ _ ?_
  refine wp_ret ?_
  repeat first | with_reducible refine thenR ?_ | with_reducible refine blockR ?_ | with_reducible refine scopeR ?_
  refine ret1 (fn := Tryz.f111) (e := .ret) (.inl rfl) Tryz.results111 hS hR ⟨_, (.tmp rfl), ?_⟩
  refine ⟨?_, (hR.sub exQ)⟩
  first | exact dec_iff (by constructor <;> intro h <;> omega) | exact dec_no (by omega)| exact dec_yes (by omega)
 ·
  intro hg hS
  revert aa
  refine qZ ?_
  refine qZ ?_
  refine qZ ?_
  refine qZ ?_
  refine qZ ?_
  refine qZ ?_
  refine qA hR rfl (fun _ hS => Yld.pickF hS rfl rfl) ?_
  refine qN hR ?_
  intro aa hS
  refine wpList_nil ?_
  refine hK162 _ _ ?_
  refine wp_ret ?_
  repeat first | with_reducible refine thenR ?_ | with_reducible refine blockR ?_ | with_reducible refine scopeR ?_
  refine ret1 (fn := Tryz.f111) (e := .ret) (.inl rfl) Tryz.results111 hS hR ⟨_, (.tmp rfl), ?_⟩
  refine ⟨?_, (hR.sub exQ)⟩
  first | exact dec_iff (by constructor <;> intro h <;> omega) | exact dec_no (by omega)| exact dec_yes (by omega)
theorem lput_ok {S n : Nat} {b : Nat} {r1 r2 r3 r4 : Option Addr} {c1 c2 c3 c4 : Nat} {l : List HP} {w : World} {a s w9 : Nat} {P : Nat → Nat → Nat} {R : Nat → Int} (hR : Sep (blk b [.slice r1 (S + n) c1, .int .i64 (S : Int), .slice r2 n c2, .slice r3 n c3, .slice r4 n c4] 183 :: sls r1 (S + n) c1 180 3 ((nods (S + n) P R).flatMap eL) :: l) w) (hb1 : Bk r1) (ha : a < S + n) (hs : s < S + n) (hx : P w9 a < S + n) (hw : w9 < 2) : CallR Tryz.prog 141 [.pointer (some ⟨b, 0, none⟩), .int .i64 (a : Int), .int .i64 (s : Int), .int .i64 (w9 : Int)] w (fun v w' => v = .tuple [].toArray ∧ Sep (blk b [.slice r1 (S + n) c1, .int .i64 (S : Int), .slice r2 n c2, .slice r3 n c3, .slice r4 n c4] 183 :: sls r1 (S + n) c1 180 3 ((nods (S + n) (putP P w9 a s) R).flatMap eL) :: l) w') := by
 refine enter Tryz.func141 rfl Tryz.ntmps141 (Nat.le_of_ble_eq_true rfl) ?_; intro aa hS
 refine wp_seq_k ?_; intro K163 hK163
 refine wp_region_lit ?_
 revert aa
 refine qM hR ?_
 refine qA hR rfl (fun _ hS => Yld.nilCheck hS rfl) ?_
 refine qA hR rfl (fun _ hS => Yld.fieldAddr hS rfl 0 Tryz.underlying183 rfl rfl info181 (by decide)) ?_
 refine qA hR rfl (fun _ hS => Yld.load1 hS rfl Tryz.underlying181 rfl rdQ) ?_
 refine qM hR ?_
 refine qM hR ?_
 refine qA hR rfl (fun _ hS => ihQ 3 (a) Tryz.underlying181 info180) ?_
 refine qA hR rfl (fun _ hS => Yld.fieldAddr hS rfl 0 Tryz.underlying180 rfl rfl info178 (by decide)) ?_
 refine qA hR rfl (fun _ hS => Yld.to (u := .pointer (some ⟨blkOf r1, a * 3 + w9, none⟩)) (Yld.indexArr hS rfl rfl Tryz.underlying178 info3 (by omega) (by omega)) (by have h1 : (Tryz.t3).size = 1 := rfl; rw [h1]; congr 3 <;> omega)) ?_
 refine qA hR rfl (fun _ hS => Yld.load1 hS rfl Tryz.underlying3 rfl (Rd.rec (k := a) (j := w9) (v := .int .i64 ((P w9 a : Nat) : Int)) (xs := nods (S + n) P R) pkQ (by intro _; rfl) (by rw [nods_len]; omega) (by rw [nods_get]; exact eL_get (r := (fun d => ((P d a : Nat) : Int), R a)) (by omega)))) ?_
 refine qN hR ?_
 intro aa hS
 refine wpList_nil ?_
 refine hK163 _ _ ?_
 refine wp_seq_k ?_; intro K164 hK164
 refine drawn krQ hR (Ex.of_pk (r := sls r1 _ _ _ _ _) pkQ) ?_; clear hR; intro ww hR hR0
 revert aa
 refine eA 0 rfl krQ (fun _ _ _ h => h) hR0 rfl (fun _ hS => Yld.move hS rfl) ?_
 refine eA 1 rfl krQ (fun _ _ _ h => h) hR0 rfl (fun _ hS => Yld.nilCheck hS rfl) ?_
 refine eA 2 rfl krQ (fun _ _ _ h => h) hR0 rfl (fun _ hS => Yld.fieldAddr hS rfl 0 Tryz.underlying183 rfl rfl info181 (by decide)) ?_
 refine eA 3 rfl krQ (fun _ _ _ h => h) hR0 rfl (fun _ hS => Yld.load1 hS rfl Tryz.underlying181 rfl rdQ) ?_
 refine eA 4 rfl krQ (fun _ _ _ h => h) hR0 rfl (fun _ hS => Yld.move hS rfl) ?_
 refine eA 5 rfl krQ (fun _ _ _ h => h) hR0 rfl (fun _ hS => Yld.move hS rfl) ?_
 refine eA 6 rfl krQ (fun _ _ _ h => h) hR0 rfl (fun _ hS => Yld.move hS rfl) ?_
 refine eA 7 rfl krQ (fun _ _ _ h => h) hR0 rfl (fun _ hS => Yld.nilCheck hS rfl) ?_
 refine eA 8 rfl krQ (fun _ _ _ h => h) hR0 rfl (fun _ hS => Yld.fieldAddr hS rfl 0 Tryz.underlying183 rfl rfl info181 (by decide)) ?_
 refine eA 9 rfl krQ (fun _ _ _ h => h) hR0 rfl (fun _ hS => Yld.load1 hS rfl Tryz.underlying181 rfl rdQ) ?_
 refine eA 10 rfl krQ (fun _ _ _ h => h) hR0 rfl (fun _ hS => Yld.move hS rfl) ?_
 refine eA 11 rfl krQ (fun _ _ _ h => h) hR0 rfl (fun _ hS => Yld.move hS rfl) ?_
 intro aa hS
 refine dA 12 rfl krQ krQ krQ (fun _ _ _ h => h) hS hR0 suQ (by decide) ?_; clear hS; intro aa hS
 revert aa
 refine eA 13 rfl krQ (fun _ _ _ h => h) hR0 rfl (fun _ hS => Yld.move hS rfl) ?_
 refine eA 14 rfl krQ (fun _ _ _ h => h) hR0 rfl (fun _ hS => Yld.move hS rfl) ?_
 refine eA 15 rfl krQ (fun _ _ _ h => h) hR0 rfl (fun _ hS => ihQ 3 (s) Tryz.underlying181 info180) ?_
 refine eA 16 rfl krQ (fun _ _ _ h => h) hR0 rfl (fun _ hS => Yld.fieldAddr hS rfl 0 Tryz.underlying180 rfl rfl info178 (by decide)) ?_
 refine eA 17 rfl krQ (fun _ _ _ h => h) hR0 rfl (fun _ hS => Yld.to (u := .pointer (some ⟨blkOf r1, s * 3 + w9, none⟩)) (Yld.indexArr hS rfl rfl Tryz.underlying178 info3 (by omega) (by omega)) (by have h1 : (Tryz.t3).size = 1 := rfl; rw [h1]; congr 3 <;> omega)) ?_
 refine eA 19 rfl krQ (fun _ _ _ h => h) hR0 rfl (fun _ hS => ihQ 3 (s) Tryz.underlying181 info180) ?_
 refine eA 20 rfl krQ (fun _ _ _ h => h) hR0 rfl (fun _ hS => Yld.fieldAddr hS rfl 0 Tryz.underlying180 rfl rfl info178 (by decide)) ?_
 intro aa hS
 refine dOne (i := 18) krQ ?_
 refine dop rfl (BstoreN hS hR rfl rfl info3 rfl pkQ (by omega) (by omega) ?_); clear hR hR0; intro ww hR
 refine dnext (hR.sub exQ) ?_; intro hR0
 revert aa
 refine eA 21 rfl krQ (fun _ _ _ h => h) hR0 rfl (fun _ hS => Yld.to (u := .pointer (some ⟨blkOf r1, s * 3 + (1 - w9), none⟩)) (Yld.indexArr hS rfl rfl Tryz.underlying178 info3 (by omega) (by omega)) (by have h1 : (Tryz.t3).size = 1 := rfl; rw [h1]; congr 3 <;> omega)) ?_
 intro aa hS
 refine dOne (i := 22) krQ ?_
 refine dop rfl (BstoreN hS hR rfl rfl info3 rfl pkQ (by omega) (by omega) ?_); clear hR hR0; intro ww hR
 refine dnext (hR.sub exQ) ?_; intro hR0
 refine wpAnyH_done krQ ?_ _; clear hR0
 refine hK164 _ _ ?_
 refine drawn krQ hR (Ex.of_pk (r := sls r1 _ _ _ _ _) pkQ) ?_; clear hR; intro ww hR hR0
 revert aa
 refine eA 0 rfl krQ (fun _ _ _ h => h) hR0 rfl (fun _ hS => Yld.move hS rfl) ?_
 intro aa hS
 try rw [updP_comm (P := P) (d := 1 - w9) (d' := w9) (by omega)] at hR
 obtain ⟨P1, hP1⟩ : ∃ y, updP (updP P w9 s (P w9 a)) (1 - w9) s a = y := ⟨_, rfl⟩
 rw [hP1] at hR
 revert aa
 refine eA 1 rfl krQ (fun _ _ _ h => h) hR0 rfl (fun _ hS => Yld.nilCheck hS rfl) ?_
 refine eA 2 rfl krQ (fun _ _ _ h => h) hR0 rfl (fun _ hS => Yld.fieldAddr hS rfl 0 Tryz.underlying183 rfl rfl info181 (by decide)) ?_
 intro aa hS
 refine dA 3 rfl krQ krQ krQ (fun _ _ _ h => h) hS hR0 (Yld.load1 hS rfl Tryz.underlying181 rfl rdQ) (by decide) ?_; clear hS; intro aa hS
 revert aa
 refine eA 4 rfl krQ (fun _ _ _ h => h) hR0 rfl (fun _ hS => Yld.move hS rfl) ?_
 refine eA 5 rfl krQ (fun _ _ _ h => h) hR0 rfl (fun _ hS => Yld.move hS rfl) ?_
 refine eA 6 rfl krQ (fun _ _ _ h => h) hR0 rfl (fun _ hS => Yld.move hS rfl) ?_
 refine eA 7 rfl krQ (fun _ _ _ h => h) hR0 rfl (fun _ hS => Yld.nilCheck hS rfl) ?_
 refine eA 8 rfl krQ (fun _ _ _ h => h) hR0 rfl (fun _ hS => Yld.fieldAddr hS rfl 0 Tryz.underlying183 rfl rfl info181 (by decide)) ?_
 refine eA 9 rfl krQ (fun _ _ _ h => h) hR0 rfl (fun _ hS => Yld.load1 hS rfl Tryz.underlying181 rfl rdQ) ?_
 refine eA 10 rfl krQ (fun _ _ _ h => h) hR0 rfl (fun _ hS => Yld.move hS rfl) ?_
 refine eA 11 rfl krQ (fun _ _ _ h => h) hR0 rfl (fun _ hS => Yld.move hS rfl) ?_
 intro aa hS
 refine dA 12 rfl krQ krQ krQ (fun _ _ _ h => h) hS hR0 suQ (by decide) ?_; clear hS; intro aa hS
 revert aa
 refine eA 13 rfl krQ (fun _ _ _ h => h) hR0 rfl (fun _ hS => Yld.move hS rfl) ?_
 refine eA 14 rfl krQ (fun _ _ _ h => h) hR0 rfl (fun _ hS => Yld.move hS rfl) ?_
 refine eA 15 rfl krQ (fun _ _ _ h => h) hR0 rfl (fun _ hS => ihQ 3 (a) Tryz.underlying181 info180) ?_
 refine eA 16 rfl krQ (fun _ _ _ h => h) hR0 rfl (fun _ hS => Yld.fieldAddr hS rfl 0 Tryz.underlying180 rfl rfl info178 (by decide)) ?_
 refine eA 17 rfl krQ (fun _ _ _ h => h) hR0 rfl (fun _ hS => Yld.to (u := .pointer (some ⟨blkOf r1, a * 3 + w9, none⟩)) (Yld.indexArr hS rfl rfl Tryz.underlying178 info3 (by omega) (by omega)) (by have h1 : (Tryz.t3).size = 1 := rfl; rw [h1]; congr 3 <;> omega)) ?_
 refine eA 19 rfl krQ (fun _ _ _ h => h) hR0 rfl (fun _ hS => ihQ 3 (P w9 a) Tryz.underlying181 info180) ?_
 refine eA 20 rfl krQ (fun _ _ _ h => h) hR0 rfl (fun _ hS => Yld.fieldAddr hS rfl 0 Tryz.underlying180 rfl rfl info178 (by decide)) ?_
 intro aa hS
 refine dOne (i := 18) krQ ?_
 refine dop rfl (BstoreN hS hR rfl rfl info3 rfl pkQ (by omega) (by omega) ?_); clear hR hR0; intro ww hR
 refine dnext (hR.sub exQ) ?_; intro hR0
 revert aa
 refine eA 21 rfl krQ (fun _ _ _ h => h) hR0 rfl (fun _ hS => Yld.to (u := .pointer (some ⟨blkOf r1, (P w9 a) * 3 + (1 - w9), none⟩)) (Yld.indexArr hS rfl rfl Tryz.underlying178 info3 (by omega) (by omega)) (by have h1 : (Tryz.t3).size = 1 := rfl; rw [h1]; congr 3 <;> omega)) ?_
 intro aa hS
 refine dOne (i := 22) krQ ?_
 refine dop rfl (BstoreN hS hR rfl rfl info3 rfl pkQ (by omega) (by omega) ?_); clear hR hR0; intro ww hR
 refine dnext (hR.sub exQ) ?_; intro hR0
 refine wpAnyH_done krQ ?_ _; clear hR0
 repeat (first | with_reducible refine thenX ?_ | with_reducible refine blockX ?_ | with_reducible refine blockY (by rfl) ?_)
 refine retN (fn := Tryz.f141) (e := .normal) (.inr rfl) Tryz.results141 hS hR ⟨_, .nil, rfl, ?_⟩
 try rw [updP_comm (P := P1) (d := 1 - w9) (d' := w9) (by omega)] at hR
 have e9 : updP (updP P1 w9 a s) (1 - w9) (P w9 a) s = putP P w9 a s := by subst hP1; rfl
 rw [e9] at hR
 exact ⟨rfl, (hR.sub exQ)⟩
theorem lbeside_ok {S n : Nat} {b : Nat} {r1 r2 r3 r4 : Option Addr} {c1 c2 c3 c4 : Nat} {l : List HP} {w : World} {a w9 : Nat} {P : Nat → Nat → Nat} {R : Nat → Int} (hR : Sep (blk b [.slice r1 (S + n) c1, .int .i64 (S : Int), .slice r2 n c2, .slice r3 n c3, .slice r4 n c4] 183 :: sls r1 (S + n) c1 180 3 ((nods (S + n) P R).flatMap eL) :: l) w) (hb1 : Bk r1) (ha : a < S + n) (hw : w9 < 2) : CallR Tryz.prog 138 [.pointer (some ⟨b, 0, none⟩), .int .i64 (a : Int), .int .i64 (w9 : Int)] w (fun v w' => v = optV (if P w9 a < S then some (P w9 a) else none) ∧ Sep (blk b [.slice r1 (S + n) c1, .int .i64 (S : Int), .slice r2 n c2, .slice r3 n c3, .slice r4 n c4] 183 :: sls r1 (S + n) c1 180 3 ((nods (S + n) P R).flatMap eL) :: l) w') := by
 refine enter Tryz.func138 rfl Tryz.ntmps138 (Nat.le_of_ble_eq_true rfl) ?_; intro aa hS
 refine wp_seq_k ?_; intro K165 hK165
 refine wp_region_lit ?_
 revert aa
 refine qN hR ?_
 refine qN hR ?_
 intro aa hS
 refine wpList_nil ?_
 refine hK165 _ _ ?_
 refine wp_seq_k ?_; intro K166 hK166
 refine wp_seq_k ?_; intro K167 hK167
 refine wp_region_lit ?_
 revert aa
 refine qM hR ?_
 refine qA hR rfl (fun _ hS => Yld.nilCheck hS rfl) ?_
 refine qA hR rfl (fun _ hS => Yld.fieldAddr hS rfl 0 Tryz.underlying183 rfl rfl info181 (by decide)) ?_
 intro aa hS
 refine sA hS hR (Yld.load1 hS rfl Tryz.underlying181 rfl rdQ) (by decide) ?_; clear hS; intro aa hS
 revert aa
 refine qM hR ?_
 refine qM hR ?_
 refine qA hR rfl (fun _ hS => ihQ 3 (a) Tryz.underlying181 info180) ?_
 refine qA hR rfl (fun _ hS => Yld.fieldAddr hS rfl 0 Tryz.underlying180 rfl rfl info178 (by decide)) ?_
 refine qA hR rfl (fun _ hS => Yld.to (u := .pointer (some ⟨blkOf r1, a * 3 + w9, none⟩)) (Yld.indexArr hS rfl rfl Tryz.underlying178 info3 (by omega) (by omega)) (by have h1 : (Tryz.t3).size = 1 := rfl; rw [h1]; congr 3 <;> omega)) ?_
 refine qA hR rfl (fun _ hS => Yld.load1 hS rfl Tryz.underlying3 rfl (Rd.rec (k := a) (j := w9) (v := .int .i64 ((P w9 a : Nat) : Int)) (xs := nods (S + n) P R) pkQ (by intro _; rfl) (by rw [nods_len]; omega) (by rw [nods_get]; exact eL_get (r := (fun d => ((P d a : Nat) : Int), R a)) (by omega)))) ?_
 refine qN hR ?_
 intro aa hS
 refine wpList_nil ?_
 refine hK167 _ _ ?_
 refine wp_seq_k ?_; intro K168 hK168
 refine wp_region_lit ?_
 revert aa
 refine qM hR ?_
 refine qM hR ?_
 refine qA hR rfl (fun _ hS => Yld.nilCheck hS rfl) ?_
 refine qA hR rfl (fun _ hS => Yld.fieldAddr hS rfl 1 Tryz.underlying183 rfl rfl info3 (by decide)) ?_
 refine qA hR rfl (fun _ hS => Yld.load1 hS rfl Tryz.underlying3 rfl rdQ) ?_
 refine qA hR rfl (fun _ hS => Yld.lss hS rfl rfl) ?_
 intro aa hS
 refine wpList_nil ?_
 refine hK168 _ _ ?_
 refine hS.splitB (t := 24) rfl ?_ ?_ <;> clear hS
 ·
  intro hg hS
  refine condT hS rfl ?_
  refine wp_seq_k ?_; intro K169 hK169
  refine wp_region_lit ?_
  revert aa
  refine qM hR ?_
  refine qN hR ?_
  refine qN hR ?_
  intro aa hS
  refine wpList_nil ?_
  refine hK169 _ _ ?_
  refine wp_ret ?_
  repeat first | with_reducible refine thenR ?_ | with_reducible refine blockR ?_ | with_reducible refine scopeR ?_
  refine retN (fn := Tryz.f138) (e := .ret) (.inl rfl) Tryz.results138 hS hR ⟨_, .cons (.tmp rfl) (.cons (.tmp rfl) (.nil)), rfl, ?_⟩
  refine ⟨?_, (hR.sub exQ)⟩
  first | (rw [if_pos (by omega)]; rfl) | (rw [if_neg (by omega)]; rfl)
 ·
  intro hg hS
  refine condF hS rfl ?_
  refine wp_skip ?_
  refine hK166 _ _ ?_
  refine wp_seq_k ?_; intro K170 hK170
  refine wp_region_lit ?_
  revert aa
  refine qN hR ?_
  refine qN hR ?_
  intro aa hS
  refine wpList_nil ?_
  refine hK170 _ _ ?_
  refine wp_ret ?_
  repeat first | with_reducible refine thenR ?_ | with_reducible refine blockR ?_ | with_reducible refine scopeR ?_
  refine retN (fn := Tryz.f138) (e := .ret) (.inl rfl) Tryz.results138 hS hR ⟨_, .cons (.tmp rfl) (.cons (.tmp rfl) (.nil)), rfl, ?_⟩
  refine ⟨?_, (hR.sub exQ)⟩
  first | (rw [if_pos (by omega)]; rfl) | (rw [if_neg (by omega)]; rfl)
end Go.Proofs.YtkhdejjompbklaaGreat.Sx
