/-
 
-/
import Derived.Test.YtkhdejjompbklaaKArB
import Derived.Test.YtkhdejjompbklaaKPb
import Derived.Test.YtkhdejjompbklaaKPl
namespace Go.Proofs.Ytkhdejjompbklaa.Sx
open Go
set_option maxRecDepth 20000
set_option linter.unusedVariables false
set_option linter.unusedSimpArgs false
theorem info41 : Try.prog.info? 41 = some Try.t41 := by kernel_rfl
theorem info59 : Try.prog.info? 59 = some Try.t59 := by kernel_rfl
theorem info140 : Try.prog.info? 140 = some Try.t140 := by kernel_rfl
theorem info160 : Try.prog.info? 160 = some Try.t160 := by kernel_rfl
theorem lsome_ok {S n : Nat} {b : Nat} {r1 r2 r3 r4 : Option Addr} {c1 c2 c3 c4 : Nat} {l : List HP} {w : World} (hR : Sep (blk b [.slice r1 (S + n) c1, .int .i64 (S : Int), .slice r2 n c2, .slice r3 n c3, .slice r4 n c4] 142 :: l) w) (hp : 0 < S) : CallR Try.prog 92 [.pointer (some ⟨b, 0, none⟩)] w (fun v w' => v = .bool true ∧ Sep (blk b [.slice r1 (S + n) c1, .int .i64 (S : Int), .slice r2 n c2, .slice r3 n c3, .slice r4 n c4] 142 :: l) w') := by
 refine enter Try.func92 rfl Try.ntmps92 (Nat.le_of_ble_eq_true rfl) ?_; intro aa hS
 refine wp_seq_k ?_; intro K104 hK104
 refine wp_region_lit ?_
 revert aa
 refine qN hR ?_
 intro aa hS
 refine wpList_nil ?_
 refine hK104 _ _ ?_
 refine wp_seq_k ?_; intro K105 hK105
 refine wp_region_lit ?_
 revert aa
 refine qM hR ?_
 refine qA hR rfl (fun _ hS => Yld.neqNil hS rfl rfl Try.underlying104) ?_
 refine qB (t := 4) true rfl (by rfl) ?_
 refine qM hR ?_
 refine qMg hR ?_
 refine qAg hR rfl rfl rfl (fun _ hS => Yld.nilCheck hS rfl) ?_
 refine qAg hR rfl rfl rfl (fun _ hS => Yld.fieldAddr hS rfl 1 Try.underlying142 rfl rfl info3 (by decide)) ?_
 refine qAg hR rfl rfl rfl (fun _ hS => Yld.load1 hS rfl Try.underlying3 rfl rdQ) ?_
 refine qAg hR rfl rfl rfl (fun _ hS => Yld.gtr hS rfl rfl) ?_
 refine qA hR rfl (fun _ hS => Yld.pickT hS rfl rfl) ?_
 refine qB (t := 11) true rfl (by exact decide_eq_true (by omega)) ?_
 refine qN hR ?_
 intro aa hS
 refine wpList_nil ?_
 refine hK105 _ _ ?_
 refine wp_ret ?_
 repeat first | with_reducible refine thenR ?_ | with_reducible refine blockR ?_ | with_reducible refine scopeR ?_
 refine ret1 (fn := Try.f92) (e := .ret) (.inl rfl) Try.results92 hS hR ⟨_, (.tmp rfl), ?_⟩
 exact ⟨rfl, (hR.sub exQ)⟩
theorem llist_ok {S n : Nat} {b : Nat} {r1 r2 r3 r4 : Option Addr} {c1 c2 c3 c4 : Nat} {l : List HP} {w : World} {i : Int} (hR : Sep (blk b [.slice r1 (S + n) c1, .int .i64 (S : Int), .slice r2 n c2, .slice r3 n c3, .slice r4 n c4] 142 :: l) w) (hp : 0 < S) : CallR Try.prog 82 [.pointer (some ⟨b, 0, none⟩), .int .i64 i] w (fun v w' => v = .bool (decide (0 ≤ i ∧ i < n)) ∧ Sep (blk b [.slice r1 (S + n) c1, .int .i64 (S : Int), .slice r2 n c2, .slice r3 n c3, .slice r4 n c4] 142 :: l) w') := by
 refine enter Try.func82 rfl Try.ntmps82 (Nat.le_of_ble_eq_true rfl) ?_; intro aa hS
 refine wp_seq_k ?_; intro K106 hK106
 refine wp_region_lit ?_
 revert aa
 refine qN hR ?_
 intro aa hS
 refine wpList_nil ?_
 refine hK106 _ _ ?_
 refine wp_seq_k ?_; intro K107 hK107
 refine wp_region_lit ?_
 revert aa
 refine qM hR ?_
 intro aa hS
 refine sB (Bcall hS rfl Try.call92 (lsome_ok (hR.pk (r := blk b _ _) pkQ) (by omega)) (by decide) ?_); clear hS; intro aa ww vv hS hp
 clear hR
 obtain ⟨rfl, hR⟩ := hp
 revert aa
 refine qM hR ?_
 refine qMg hR ?_
 refine qAg hR rfl rfl rfl (fun _ hS => Yld.geq hS rfl rfl) ?_
 refine qA hR rfl (fun _ hS => Yld.pickT hS rfl rfl) ?_
 refine qM hR ?_
 intro aa hS
 refine hS.splitB (t := 11) rfl ?_ ?_ <;> clear hS
 ·
  intro hg hS
  revert aa
  refine qMg hR ?_
  refine qMg hR ?_
  refine qAg hR rfl rfl rfl (fun _ hS => Yld.nilCheck hS rfl) ?_
  refine qAg hR rfl rfl rfl (fun _ hS => Yld.fieldAddr hS rfl 2 Try.underlying142 rfl rfl info41 (by decide)) ?_
  refine qAg hR rfl rfl rfl (fun _ hS => Yld.load1 hS rfl Try.underlying41 rfl rdQ) ?_
  refine qAg hR rfl rfl rfl (fun _ hS => Yld.len hS rfl Try.underlying41) ?_
  refine qAg hR rfl rfl rfl (fun _ hS => Yld.lss hS rfl rfl) ?_
  refine qA hR rfl (fun _ hS => Yld.pickT hS rfl rfl) ?_
  refine qN hR ?_
  intro aa hS
  refine wpList_nil ?_
  refine hK107 _ _ ?_
  refine wp_ret ?_
  repeat first | with_reducible refine thenR ?_ | with_reducible refine blockR ?_ | with_reducible refine scopeR ?_
  refine ret1 (fn := Try.f82) (e := .ret) (.inl rfl) Try.results82 hS hR ⟨_, (.tmp rfl), ?_⟩
  refine ⟨?_, (hR.sub exQ)⟩
  first | exact dec_iff (by constructor <;> intro h <;> omega) | exact dec_no (by omega)| exact dec_yes (by omega)
 ·
  intro hg hS
  revert aa
  refine qZ ?_
  refine qZ ?_
  refine qZ ?_
  refine qZ ?_
  refine qZ ?_
  refine qZ ?_
  refine qZ ?_
  refine qA hR rfl (fun _ hS => Yld.pickF hS rfl rfl) ?_
  refine qN hR ?_
  intro aa hS
  refine wpList_nil ?_
  refine hK107 _ _ ?_
  refine wp_ret ?_
  repeat first | with_reducible refine thenR ?_ | with_reducible refine blockR ?_ | with_reducible refine scopeR ?_
  refine ret1 (fn := Try.f82) (e := .ret) (.inl rfl) Try.results82 hS hR ⟨_, (.tmp rfl), ?_⟩
  refine ⟨?_, (hR.sub exQ)⟩
  first | exact dec_iff (by constructor <;> intro h <;> omega) | exact dec_no (by omega)| exact dec_yes (by omega)
theorem lslot_ok {S n : Nat} {b : Nat} {r1 r2 r3 r4 : Option Addr} {c1 c2 c3 c4 : Nat} {l : List HP} {w : World} {i : Int} (hR : Sep (blk b [.slice r1 (S + n) c1, .int .i64 (S : Int), .slice r2 n c2, .slice r3 n c3, .slice r4 n c4] 142 :: l) w) (hp : 0 < S) : CallR Try.prog 93 [.pointer (some ⟨b, 0, none⟩), .int .i64 i] w (fun v w' => v = .bool (decide (0 ≤ i ∧ i < S)) ∧ Sep (blk b [.slice r1 (S + n) c1, .int .i64 (S : Int), .slice r2 n c2, .slice r3 n c3, .slice r4 n c4] 142 :: l) w') := by
 refine enter Try.func93 rfl Try.ntmps93 (Nat.le_of_ble_eq_true rfl) ?_; intro aa hS
 refine wp_seq_k ?_; intro K108 hK108
 refine wp_region_lit ?_
 revert aa
 refine qN hR ?_
 intro aa hS
 refine wpList_nil ?_
 refine hK108 _ _ ?_
 refine wp_seq_k ?_; intro K109 hK109
 refine wp_region_lit ?_
 revert aa
 refine qM hR ?_
 intro aa hS
 refine sB (Bcall hS rfl Try.call92 (lsome_ok (hR.pk (r := blk b _ _) pkQ) (by omega)) (by decide) ?_); clear hS; intro aa ww vv hS hp
 clear hR
 obtain ⟨rfl, hR⟩ := hp
 revert aa
 refine qM hR ?_
 refine qMg hR ?_
 refine qAg hR rfl rfl rfl (fun _ hS => Yld.geq hS rfl rfl) ?_
 refine qA hR rfl (fun _ hS => Yld.pickT hS rfl rfl) ?_
 refine qM hR ?_
 intro aa hS
 refine hS.splitB (t := 11) rfl ?_ ?_ <;> clear hS
 ·
  intro hg hS
  revert aa
  refine qMg hR ?_
  refine qMg hR ?_
  refine qAg hR rfl rfl rfl (fun _ hS => Yld.nilCheck hS rfl) ?_
  refine qAg hR rfl rfl rfl (fun _ hS => Yld.fieldAddr hS rfl 1 Try.underlying142 rfl rfl info3 (by decide)) ?_
  refine qAg hR rfl rfl rfl (fun _ hS => Yld.load1 hS rfl Try.underlying3 rfl rdQ) ?_
  refine qAg hR rfl rfl rfl (fun _ hS => Yld.lss hS rfl rfl) ?_
  refine qA hR rfl (fun _ hS => Yld.pickT hS rfl rfl) ?_
  refine qN hR ?_
  intro aa hS
  refine wpList_nil ?_
  refine hK109 _ _ ?_
  refine wp_ret ?_
  repeat first | with_reducible refine thenR ?_ | with_reducible refine blockR ?_ | with_reducible refine scopeR ?_
  refine ret1 (fn := Try.f93) (e := .ret) (.inl rfl) Try.results93 hS hR ⟨_, (.tmp rfl), ?_⟩
  refine ⟨?_, (hR.sub exQ)⟩
  first | exact dec_iff (by constructor <;> intro h <;> omega) | exact dec_no (by omega)| exact dec_yes (by omega)
 ·
  intro hg hS
  revert aa
  refine qZ ?_
  refine qZ ?_
  refine qZ ?_
  refine qZ ?_
  refine qZ ?_
  refine qZ ?_
  refine qA hR rfl (fun _ hS => Yld.pickF hS rfl rfl) ?_
  refine qN hR ?_
  intro aa hS
  refine wpList_nil ?_
  refine hK109 _ _ ?_
  refine wp_ret ?_
  repeat first | with_reducible refine thenR ?_ | with_reducible refine blockR ?_ | with_reducible refine scopeR ?_
  refine ret1 (fn := Try.f93) (e := .ret) (.inl rfl) Try.results93 hS hR ⟨_, (.tmp rfl), ?_⟩
  refine ⟨?_, (hR.sub exQ)⟩
  first | exact dec_iff (by constructor <;> intro h <;> omega) | exact dec_no (by omega)| exact dec_yes (by omega)
theorem lput_ok {S n : Nat} {b : Nat} {r1 r2 r3 r4 : Option Addr} {c1 c2 c3 c4 : Nat} {l : List HP} {w : World} {a s w9 : Nat} {P : Nat → Nat → Nat} {R : Nat → Int} (hR : Sep (blk b [.slice r1 (S + n) c1, .int .i64 (S : Int), .slice r2 n c2, .slice r3 n c3, .slice r4 n c4] 142 :: sls r1 (S + n) c1 160 3 ((nods (S + n) P R).flatMap eL) :: l) w) (hb1 : Bk r1) (ha : a < S + n) (hs : s < S + n) (hx : P w9 a < S + n) (hw : w9 < 2) : CallR Try.prog 101 [.pointer (some ⟨b, 0, none⟩), .int .i64 (a : Int), .int .i64 (s : Int), .int .i64 (w9 : Int)] w (fun v w' => v = .tuple [].toArray ∧ Sep (blk b [.slice r1 (S + n) c1, .int .i64 (S : Int), .slice r2 n c2, .slice r3 n c3, .slice r4 n c4] 142 :: sls r1 (S + n) c1 160 3 ((nods (S + n) (putP P w9 a s) R).flatMap eL) :: l) w') := by
 refine enter Try.func101 rfl Try.ntmps101 (Nat.le_of_ble_eq_true rfl) ?_; intro aa hS
 refine wp_seq_k ?_; intro K110 hK110
 refine wp_region_lit ?_
 revert aa
 refine qM hR ?_
 refine qA hR rfl (fun _ hS => Yld.nilCheck hS rfl) ?_
 refine qA hR rfl (fun _ hS => Yld.fieldAddr hS rfl 0 Try.underlying142 rfl rfl info140 (by decide)) ?_
 refine qA hR rfl (fun _ hS => Yld.load1 hS rfl Try.underlying140 rfl rdQ) ?_
 refine qM hR ?_
 refine qM hR ?_
 refine qA hR rfl (fun _ hS => ihQ 3 (a) Try.underlying140 info160) ?_
 refine qA hR rfl (fun _ hS => Yld.fieldAddr hS rfl 0 Try.underlying160 rfl rfl info59 (by decide)) ?_
 refine qA hR rfl (fun _ hS => Yld.to (u := .pointer (some ⟨blkOf r1, a * 3 + w9, none⟩)) (Yld.indexArr hS rfl rfl Try.underlying59 info3 (by omega) (by omega)) (by have h1 : (Try.t3).size = 1 := rfl; rw [h1]; congr 3 <;> omega)) ?_
 refine qA hR rfl (fun _ hS => Yld.load1 hS rfl Try.underlying3 rfl (Rd.rec (k := a) (j := w9) (v := .int .i64 ((P w9 a : Nat) : Int)) (xs := nods (S + n) P R) pkQ (by intro _; rfl) (by rw [nods_len]; omega) (by rw [nods_get]; exact eL_get (r := (fun d => ((P d a : Nat) : Int), R a)) (by omega)))) ?_
 refine qN hR ?_
 intro aa hS
 refine wpList_nil ?_
 refine hK110 _ _ ?_
 refine wp_seq_k ?_; intro K111 hK111
 refine drawn krQ hR (Ex.of_pk (r := sls r1 _ _ _ _ _) pkQ) ?_; clear hR; intro ww hR hR0
 revert aa
 refine eA 0 rfl krQ (fun _ _ _ h => h) hR0 rfl (fun _ hS => Yld.move hS rfl) ?_
 refine eA 1 rfl krQ (fun _ _ _ h => h) hR0 rfl (fun _ hS => Yld.nilCheck hS rfl) ?_
 refine eA 2 rfl krQ (fun _ _ _ h => h) hR0 rfl (fun _ hS => Yld.fieldAddr hS rfl 0 Try.underlying142 rfl rfl info140 (by decide)) ?_
 refine eA 3 rfl krQ (fun _ _ _ h => h) hR0 rfl (fun _ hS => Yld.load1 hS rfl Try.underlying140 rfl rdQ) ?_
 refine eA 4 rfl krQ (fun _ _ _ h => h) hR0 rfl (fun _ hS => Yld.move hS rfl) ?_
 refine eA 5 rfl krQ (fun _ _ _ h => h) hR0 rfl (fun _ hS => Yld.move hS rfl) ?_
 refine eA 6 rfl krQ (fun _ _ _ h => h) hR0 rfl (fun _ hS => Yld.move hS rfl) ?_
 refine eA 7 rfl krQ (fun _ _ _ h => h) hR0 rfl (fun _ hS => Yld.nilCheck hS rfl) ?_
 refine eA 8 rfl krQ (fun _ _ _ h => h) hR0 rfl (fun _ hS => Yld.fieldAddr hS rfl 0 Try.underlying142 rfl rfl info140 (by decide)) ?_
 refine eA 9 rfl krQ (fun _ _ _ h => h) hR0 rfl (fun _ hS => Yld.load1 hS rfl Try.underlying140 rfl rdQ) ?_
 refine eA 10 rfl krQ (fun _ _ _ h => h) hR0 rfl (fun _ hS => Yld.move hS rfl) ?_
 refine eA 11 rfl krQ (fun _ _ _ h => h) hR0 rfl (fun _ hS => Yld.move hS rfl) ?_
 intro aa hS
 refine dA 12 rfl krQ krQ krQ (fun _ _ _ h => h) hS hR0 suQ (by decide) ?_; clear hS; intro aa hS
 revert aa
 refine eA 13 rfl krQ (fun _ _ _ h => h) hR0 rfl (fun _ hS => Yld.move hS rfl) ?_
 refine eA 14 rfl krQ (fun _ _ _ h => h) hR0 rfl (fun _ hS => Yld.move hS rfl) ?_
 refine eA 15 rfl krQ (fun _ _ _ h => h) hR0 rfl (fun _ hS => ihQ 3 (s) Try.underlying140 info160) ?_
 refine eA 16 rfl krQ (fun _ _ _ h => h) hR0 rfl (fun _ hS => Yld.fieldAddr hS rfl 0 Try.underlying160 rfl rfl info59 (by decide)) ?_
 refine eA 17 rfl krQ (fun _ _ _ h => h) hR0 rfl (fun _ hS => Yld.to (u := .pointer (some ⟨blkOf r1, s * 3 + w9, none⟩)) (Yld.indexArr hS rfl rfl Try.underlying59 info3 (by omega) (by omega)) (by have h1 : (Try.t3).size = 1 := rfl; rw [h1]; congr 3 <;> omega)) ?_
 refine eA 19 rfl krQ (fun _ _ _ h => h) hR0 rfl (fun _ hS => ihQ 3 (s) Try.underlying140 info160) ?_
 refine eA 20 rfl krQ (fun _ _ _ h => h) hR0 rfl (fun _ hS => Yld.fieldAddr hS rfl 0 Try.underlying160 rfl rfl info59 (by decide)) ?_
 intro aa hS
 refine dOne (i := 18) krQ ?_
 refine dop rfl (BstoreN hS hR rfl rfl info3 rfl pkQ (by omega) (by omega) ?_); clear hR hR0; intro ww hR
 refine dnext (hR.sub exQ) ?_; intro hR0
 revert aa
 refine eA 21 rfl krQ (fun _ _ _ h => h) hR0 rfl (fun _ hS => Yld.to (u := .pointer (some ⟨blkOf r1, s * 3 + (1 - w9), none⟩)) (Yld.indexArr hS rfl rfl Try.underlying59 info3 (by omega) (by omega)) (by have h1 : (Try.t3).size = 1 := rfl; rw [h1]; congr 3 <;> omega)) ?_
 intro aa hS
 refine dOne (i := 22) krQ ?_
 refine dop rfl (BstoreN hS hR rfl rfl info3 rfl pkQ (by omega) (by omega) ?_); clear hR hR0; intro ww hR
 refine dnext (hR.sub exQ) ?_; intro hR0
 refine wpAnyH_done krQ ?_ _; clear hR0
 refine hK111 _ _ ?_
 refine drawn krQ hR (Ex.of_pk (r := sls r1 _ _ _ _ _) pkQ) ?_; clear hR; intro ww hR hR0
 revert aa
 refine eA 0 rfl krQ (fun _ _ _ h => h) hR0 rfl (fun _ hS => Yld.move hS rfl) ?_
 intro aa hS
 try rw [updP_comm (P := P) (d := 1 - w9) (d' := w9) (by omega)] at hR
 obtain ⟨P1, hP1⟩ : ∃ y, updP (updP P w9 s (P w9 a)) (1 - w9) s a = y := ⟨_, rfl⟩
 rw [hP1] at hR
 revert aa
 refine eA 1 rfl krQ (fun _ _ _ h => h) hR0 rfl (fun _ hS => Yld.nilCheck hS rfl) ?_
 refine eA 2 rfl krQ (fun _ _ _ h => h) hR0 rfl (fun _ hS => Yld.fieldAddr hS rfl 0 Try.underlying142 rfl rfl info140 (by decide)) ?_
 intro aa hS
 refine dA 3 rfl krQ krQ krQ (fun _ _ _ h => h) hS hR0 (Yld.load1 hS rfl Try.underlying140 rfl rdQ) (by decide) ?_; clear hS; intro aa hS
 revert aa
 refine eA 4 rfl krQ (fun _ _ _ h => h) hR0 rfl (fun _ hS => Yld.move hS rfl) ?_
 refine eA 5 rfl krQ (fun _ _ _ h => h) hR0 rfl (fun _ hS => Yld.move hS rfl) ?_
 refine eA 6 rfl krQ (fun _ _ _ h => h) hR0 rfl (fun _ hS => Yld.move hS rfl) ?_
 refine eA 7 rfl krQ (fun _ _ _ h => h) hR0 rfl (fun _ hS => Yld.nilCheck hS rfl) ?_
 refine eA 8 rfl krQ (fun _ _ _ h => h) hR0 rfl (fun _ hS => Yld.fieldAddr hS rfl 0 Try.underlying142 rfl rfl info140 (by decide)) ?_
 refine eA 9 rfl krQ (fun _ _ _ h => h) hR0 rfl (fun _ hS => Yld.load1 hS rfl Try.underlying140 rfl rdQ) ?_
 refine eA 10 rfl krQ (fun _ _ _ h => h) hR0 rfl (fun _ hS => Yld.move hS rfl) ?_
 refine eA 11 rfl krQ (fun _ _ _ h => h) hR0 rfl (fun _ hS => Yld.move hS rfl) ?_
 intro aa hS
 refine dA 12 rfl krQ krQ krQ (fun _ _ _ h => h) hS hR0 suQ (by decide) ?_; clear hS; intro aa hS
 revert aa
 refine eA 13 rfl krQ (fun _ _ _ h => h) hR0 rfl (fun _ hS => Yld.move hS rfl) ?_
 refine eA 14 rfl krQ (fun _ _ _ h => h) hR0 rfl (fun _ hS => Yld.move hS rfl) ?_
 refine eA 15 rfl krQ (fun _ _ _ h => h) hR0 rfl (fun _ hS => ihQ 3 (a) Try.underlying140 info160) ?_
 refine eA 16 rfl krQ (fun _ _ _ h => h) hR0 rfl (fun _ hS => Yld.fieldAddr hS rfl 0 Try.underlying160 rfl rfl info59 (by decide)) ?_
 refine eA 17 rfl krQ (fun _ _ _ h => h) hR0 rfl (fun _ hS => Yld.to (u := .pointer (some ⟨blkOf r1, a * 3 + w9, none⟩)) (Yld.indexArr hS rfl rfl Try.underlying59 info3 (by omega) (by omega)) (by have h1 : (Try.t3).size = 1 := rfl; rw [h1]; congr 3 <;> omega)) ?_
 refine eA 19 rfl krQ (fun _ _ _ h => h) hR0 rfl (fun _ hS => ihQ 3 (P w9 a) Try.underlying140 info160) ?_
 refine eA 20 rfl krQ (fun _ _ _ h => h) hR0 rfl (fun _ hS => Yld.fieldAddr hS rfl 0 Try.underlying160 rfl rfl info59 (by decide)) ?_
 intro aa hS
 refine dOne (i := 18) krQ ?_
 refine dop rfl (BstoreN hS hR rfl rfl info3 rfl pkQ (by omega) (by omega) ?_); clear hR hR0; intro ww hR
 refine dnext (hR.sub exQ) ?_; intro hR0
 revert aa
 refine eA 21 rfl krQ (fun _ _ _ h => h) hR0 rfl (fun _ hS => Yld.to (u := .pointer (some ⟨blkOf r1, (P w9 a) * 3 + (1 - w9), none⟩)) (Yld.indexArr hS rfl rfl Try.underlying59 info3 (by omega) (by omega)) (by have h1 : (Try.t3).size = 1 := rfl; rw [h1]; congr 3 <;> omega)) ?_
 intro aa hS
 refine dOne (i := 22) krQ ?_
 refine dop rfl (BstoreN hS hR rfl rfl info3 rfl pkQ (by omega) (by omega) ?_); clear hR hR0; intro ww hR
 refine dnext (hR.sub exQ) ?_; intro hR0
 refine wpAnyH_done krQ ?_ _; clear hR0
 repeat (first | with_reducible refine thenX ?_ | with_reducible refine blockX ?_ | with_reducible refine blockY (by rfl) ?_)
 refine retN (fn := Try.f101) (e := .normal) (.inr rfl) Try.results101 hS hR ⟨_, .nil, rfl, ?_⟩
 try rw [updP_comm (P := P1) (d := 1 - w9) (d' := w9) (by omega)] at hR
 have e9 : updP (updP P1 w9 a s) (1 - w9) (P w9 a) s = putP P w9 a s := by subst hP1; rfl
 rw [e9] at hR
 exact ⟨rfl, (hR.sub exQ)⟩
theorem lbeside_ok {S n : Nat} {b : Nat} {r1 r2 r3 r4 : Option Addr} {c1 c2 c3 c4 : Nat} {l : List HP} {w : World} {a w9 : Nat} {P : Nat → Nat → Nat} {R : Nat → Int} (hR : Sep (blk b [.slice r1 (S + n) c1, .int .i64 (S : Int), .slice r2 n c2, .slice r3 n c3, .slice r4 n c4] 142 :: sls r1 (S + n) c1 160 3 ((nods (S + n) P R).flatMap eL) :: l) w) (hb1 : Bk r1) (ha : a < S + n) (hw : w9 < 2) : CallR Try.prog 95 [.pointer (some ⟨b, 0, none⟩), .int .i64 (a : Int), .int .i64 (w9 : Int)] w (fun v w' => v = optV (if P w9 a < S then some (P w9 a) else none) ∧ Sep (blk b [.slice r1 (S + n) c1, .int .i64 (S : Int), .slice r2 n c2, .slice r3 n c3, .slice r4 n c4] 142 :: sls r1 (S + n) c1 160 3 ((nods (S + n) P R).flatMap eL) :: l) w') := by
 refine enter Try.func95 rfl Try.ntmps95 (Nat.le_of_ble_eq_true rfl) ?_; intro aa hS
 refine wp_seq_k ?_; intro K112 hK112
 refine wp_region_lit ?_
 revert aa
 refine qN hR ?_
 refine qN hR ?_
 intro aa hS
 refine wpList_nil ?_
 refine hK112 _ _ ?_
 refine wp_seq_k ?_; intro K113 hK113
 refine wp_seq_k ?_; intro K114 hK114
 refine wp_region_lit ?_
 revert aa
 refine qM hR ?_
 refine qA hR rfl (fun _ hS => Yld.nilCheck hS rfl) ?_
 refine qA hR rfl (fun _ hS => Yld.fieldAddr hS rfl 0 Try.underlying142 rfl rfl info140 (by decide)) ?_
 intro aa hS
 refine sA hS hR (Yld.load1 hS rfl Try.underlying140 rfl rdQ) (by decide) ?_; clear hS; intro aa hS
 revert aa
 refine qM hR ?_
 refine qM hR ?_
 refine qA hR rfl (fun _ hS => ihQ 3 (a) Try.underlying140 info160) ?_
 refine qA hR rfl (fun _ hS => Yld.fieldAddr hS rfl 0 Try.underlying160 rfl rfl info59 (by decide)) ?_
 refine qA hR rfl (fun _ hS => Yld.to (u := .pointer (some ⟨blkOf r1, a * 3 + w9, none⟩)) (Yld.indexArr hS rfl rfl Try.underlying59 info3 (by omega) (by omega)) (by have h1 : (Try.t3).size = 1 := rfl; rw [h1]; congr 3 <;> omega)) ?_
 refine qA hR rfl (fun _ hS => Yld.load1 hS rfl Try.underlying3 rfl (Rd.rec (k := a) (j := w9) (v := .int .i64 ((P w9 a : Nat) : Int)) (xs := nods (S + n) P R) pkQ (by intro _; rfl) (by rw [nods_len]; omega) (by rw [nods_get]; exact eL_get (r := (fun d => ((P d a : Nat) : Int), R a)) (by omega)))) ?_
 refine qN hR ?_
 intro aa hS
 refine wpList_nil ?_
 refine hK114 _ _ ?_
 refine wp_seq_k ?_; intro K115 hK115
 refine wp_region_lit ?_
 revert aa
 refine qM hR ?_
 refine qM hR ?_
 refine qA hR rfl (fun _ hS => Yld.nilCheck hS rfl) ?_
 refine qA hR rfl (fun _ hS => Yld.fieldAddr hS rfl 1 Try.underlying142 rfl rfl info3 (by decide)) ?_
 refine qA hR rfl (fun _ hS => Yld.load1 hS rfl Try.underlying3 rfl rdQ) ?_
 refine qA hR rfl (fun _ hS => Yld.lss hS rfl rfl) ?_
 intro aa hS
 refine wpList_nil ?_
 refine hK115 _ _ ?_
 refine hS.splitB (t := 24) rfl ?_ ?_ <;> clear hS
 ·
  intro hg hS
  refine condT hS rfl ?_
  refine wp_seq_k ?_; intro K116 hK116
  refine wp_region_lit ?_
  revert aa
  refine qM hR ?_
  refine qN hR ?_
  refine qN hR ?_
  intro aa hS
  refine wpList_nil ?_
  refine hK116 _ _ ?_
  refine wp_ret ?_
  repeat first | with_reducible refine thenR ?_ | with_reducible refine blockR ?_ | with_reducible refine scopeR ?_
  refine retN (fn := Try.f95) (e := .ret) (.inl rfl) Try.results95 hS hR ⟨_, .cons (.tmp rfl) (.cons (.tmp rfl) (.nil)), rfl, ?_⟩
  refine ⟨?_, (hR.sub exQ)⟩
  first | (rw [if_pos (by omega)]; rfl) | (rw [if_neg (by omega)]; rfl)
 ·
  intro hg hS
  refine condF hS rfl ?_
  refine wp_skip ?_
  refine hK113 _ _ ?_
  refine wp_seq_k ?_; intro K117 hK117
  refine wp_region_lit ?_
  revert aa
  refine qN hR ?_
  refine qN hR ?_
  intro aa hS
  refine wpList_nil ?_
  refine hK117 _ _ ?_
  refine wp_ret ?_
  repeat first | with_reducible refine thenR ?_ | with_reducible refine blockR ?_ | with_reducible refine scopeR ?_
  refine retN (fn := Try.f95) (e := .ret) (.inl rfl) Try.results95 hS hR ⟨_, .cons (.tmp rfl) (.cons (.tmp rfl) (.nil)), rfl, ?_⟩
  refine ⟨?_, (hR.sub exQ)⟩
  first | (rw [if_pos (by omega)]; rfl) | (rw [if_neg (by omega)]; rfl)
end Go.Proofs.Ytkhdejjompbklaa.Sx
