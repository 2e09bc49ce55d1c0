/-
  
-/
import Derived.Test.YtojeibjlkbffcaaRows
import Derived.Test.YtojeibjlkbffcaaIn3
import Derived.Test.YtojeibjlkbffcaaLk4
namespace Go.Proofs.Ytojeibjlkbffcaa.Sx
open Go
set_option linter.unusedVariables false
set_option linter.unusedSimpArgs false

theorem info3 : Try.prog.info? 3 = some Try.t3 := by kernel_rfl
theorem info27 : Try.prog.info? 27 = some Try.t27 := by kernel_rfl
theorem info75 : Try.prog.info? 75 = some Try.t75 := by kernel_rfl
theorem info77 : Try.prog.info? 77 = some Try.t77 := by kernel_rfl
theorem info78 : Try.prog.info? 78 = some Try.t78 := by kernel_rfl

set_option maxRecDepth 20000 in
theorem lsome_ok {S n : Nat} {b : Nat} {r1 r2 r3 r4 : Option Addr} {c1 c2 c3 c4 : Nat} {l : List HP} {w : World} (hR : Sep (blk b [.slice r1 (S + n) c1, .int .i64 (S : Int), .slice r2 n c2, .slice r3 n c3, .slice r4 n c4] 80 :: l) w) (hp : 0 < S) : CallR Try.prog 45 [.pointer (some ⟨b, 0, none⟩)] w (fun v w' => v = .bool true ∧ Sep (blk b [.slice r1 (S + n) c1, .int .i64 (S : Int), .slice r2 n c2, .slice r3 n c3, .slice r4 n c4] 80 :: l) w') := by
  refine enter Try.func45 rfl Try.ntmps45 (Nat.le_of_ble_eq_true rfl) ?_; intro aa hS
  refine wp_seq_k ?_; intro K1 hK1
  refine wp_region_lit ?_
  refine sA hS hR (Yld.assign hS rfl) (by decide) ?_; clear hS; intro aa hS
  refine wpList_nil ?_
  refine hK1 _ _ ?_
  refine wp_seq_k ?_; intro K2 hK2
  refine wp_region_lit ?_
  refine sA hS hR (Yld.move hS rfl) (by decide) ?_; clear hS; intro aa hS
  refine sA hS hR (Yld.neqNil hS rfl rfl Try.underlying54) (by decide) ?_; clear hS; intro aa hS
  replace hS := hS.sayB (t := 4) true rfl (by rfl)
  refine sA hS hR (Yld.move hS rfl) (by decide) ?_; clear hS; intro aa hS
  refine sAg hS hR rfl rfl (Yld.move hS rfl) (by decide) ?_; clear hS; intro aa hS
  refine sAg hS hR rfl rfl (Yld.nilCheck hS rfl) (by decide) ?_; clear hS; intro aa hS
  refine sAg hS hR rfl rfl (Yld.fieldAddr hS rfl 1 Try.underlying80 rfl rfl info3 (by decide)) (by decide) ?_; clear hS; intro aa hS
  refine sAg hS hR rfl rfl (Yld.load1 hS rfl Try.underlying3 rfl (by first | exact Rd.blk (by repeat (first | with_reducible exact Pk.here | with_reducible apply Pk.there)) (by rfl) | exact Rd.rec (by repeat (first | with_reducible exact Pk.here | with_reducible apply Pk.there)) (by intro _; rfl) (by omega) rfl | exact Rd.rec0 (by repeat (first | with_reducible exact Pk.here | with_reducible apply Pk.there)) (by intro _; rfl) (by omega) rfl | exact Rd.flatJ (by repeat (first | with_reducible exact Pk.here | with_reducible apply Pk.there)) (by intro _; rfl) (by omega) rfl | exact Rd.flat0 (by repeat (first | with_reducible exact Pk.here | with_reducible apply Pk.there)) (by intro _; rfl) (by omega) rfl)) (by decide) ?_; clear hS; intro aa hS
  refine sAg hS hR rfl rfl (Yld.gtr hS rfl rfl) (by decide) ?_; clear hS; intro aa hS
  refine sA hS hR (Yld.pickT hS rfl rfl) (by decide) ?_; clear hS; intro aa hS
  replace hS := hS.sayB (t := 11) true rfl (by exact decide_eq_true (by omega))
  refine sA hS hR (Yld.assign hS rfl) (by decide) ?_; clear hS; intro aa hS
  refine wpList_nil ?_
  refine hK2 _ _ ?_
  refine wp_ret ?_
  repeat (first | with_reducible refine thenR ?_ | with_reducible refine blockR ?_ | with_reducible refine scopeR ?_)
  refine ret1 (fn := Try.f45) (e := .ret) (.inl rfl) Try.results45 hS hR ⟨_, (.tmp rfl), ?_⟩
  exact ⟨rfl, (hR.sub (by repeat (first | with_reducible exact Ex.refl | (with_reducible apply Ex.take; · repeat (first | with_reducible exact Pk.here | with_reducible apply Pk.there)) | with_reducible apply Ex.drop)))⟩
set_option maxRecDepth 20000 in
theorem llist_ok {S n : Nat} {b : Nat} {r1 r2 r3 r4 : Option Addr} {c1 c2 c3 c4 : Nat} {l : List HP} {w : World} {i : Int} (hR : Sep (blk b [.slice r1 (S + n) c1, .int .i64 (S : Int), .slice r2 n c2, .slice r3 n c3, .slice r4 n c4] 80 :: l) w) (hp : 0 < S) : CallR Try.prog 47 [.pointer (some ⟨b, 0, none⟩), .int .i64 i] w (fun v w' => v = .bool (decide (0 ≤ i ∧ i < n)) ∧ Sep (blk b [.slice r1 (S + n) c1, .int .i64 (S : Int), .slice r2 n c2, .slice r3 n c3, .slice r4 n c4] 80 :: l) w') := by
  refine enter Try.func47 rfl Try.ntmps47 (Nat.le_of_ble_eq_true rfl) ?_; intro aa hS
  refine wp_seq_k ?_; intro K3 hK3
  refine wp_region_lit ?_
  refine sA hS hR (Yld.assign hS rfl) (by decide) ?_; clear hS; intro aa hS
  refine wpList_nil ?_
  refine hK3 _ _ ?_
  refine wp_seq_k ?_; intro K4 hK4
  refine wp_region_lit ?_
  refine sA hS hR (Yld.move hS rfl) (by decide) ?_; clear hS; intro aa hS
  refine sB (Bcall hS rfl Try.call45 (lsome_ok (hR.pk (r := blk b _ _) (by repeat (first | with_reducible exact Pk.here | with_reducible apply Pk.there))) (by omega)) (by decide) ?_); clear hS; intro aa ww vv hS hp
  clear hR
  obtain ⟨rfl, hR⟩ := hp
  refine sA hS hR (Yld.move hS rfl) (by decide) ?_; clear hS; intro aa hS
  refine sAg hS hR rfl rfl (Yld.move hS rfl) (by decide) ?_; clear hS; intro aa hS
  refine sAg hS hR rfl rfl (Yld.geq hS rfl rfl) (by decide) ?_; clear hS; intro aa hS
  refine sA hS hR (Yld.pickT hS rfl rfl) (by decide) ?_; clear hS; intro aa hS
  refine sA hS hR (Yld.move hS rfl) (by decide) ?_; clear hS; intro aa hS
  refine hS.splitB (t := 11) rfl ?_ ?_ <;> clear hS
  · intro hg hS
    refine sAg hS hR rfl rfl (Yld.move hS rfl) (by decide) ?_; clear hS; intro aa hS
    refine sAg hS hR rfl rfl (Yld.move hS rfl) (by decide) ?_; clear hS; intro aa hS
    refine sAg hS hR rfl rfl (Yld.nilCheck hS rfl) (by decide) ?_; clear hS; intro aa hS
    refine sAg hS hR rfl rfl (Yld.fieldAddr hS rfl 2 Try.underlying80 rfl rfl info27 (by decide)) (by decide) ?_; clear hS; intro aa hS
    refine sAg hS hR rfl rfl (Yld.load1 hS rfl Try.underlying27 rfl (by first | exact Rd.blk (by repeat (first | with_reducible exact Pk.here | with_reducible apply Pk.there)) (by rfl) | exact Rd.rec (by repeat (first | with_reducible exact Pk.here | with_reducible apply Pk.there)) (by intro _; rfl) (by omega) rfl | exact Rd.rec0 (by repeat (first | with_reducible exact Pk.here | with_reducible apply Pk.there)) (by intro _; rfl) (by omega) rfl | exact Rd.flatJ (by repeat (first | with_reducible exact Pk.here | with_reducible apply Pk.there)) (by intro _; rfl) (by omega) rfl | exact Rd.flat0 (by repeat (first | with_reducible exact Pk.here | with_reducible apply Pk.there)) (by intro _; rfl) (by omega) rfl)) (by decide) ?_; clear hS; intro aa hS
    refine sAg hS hR rfl rfl (Yld.len hS rfl Try.underlying27) (by decide) ?_; clear hS; intro aa hS
    refine sAg hS hR rfl rfl (Yld.lss hS rfl rfl) (by decide) ?_; clear hS; intro aa hS
    refine sA hS hR (Yld.pickT hS rfl rfl) (by decide) ?_; clear hS; intro aa hS
    refine sA hS hR (Yld.assign hS rfl) (by decide) ?_; clear hS; intro aa hS
    refine wpList_nil ?_
    refine hK4 _ _ ?_
    refine wp_ret ?_
    repeat (first | with_reducible refine thenR ?_ | with_reducible refine blockR ?_ | with_reducible refine scopeR ?_)
    refine ret1 (fn := Try.f47) (e := .ret) (.inl rfl) Try.results47 hS hR ⟨_, (.tmp rfl), ?_⟩
    refine ⟨?_, (hR.sub (by repeat (first | with_reducible exact Ex.refl | (with_reducible apply Ex.take; · repeat (first | with_reducible exact Pk.here | with_reducible apply Pk.there)) | with_reducible apply Ex.drop)))⟩
    first | exact dec_iff (by constructor <;> intro h <;> omega) | exact dec_no (by omega)| exact dec_yes (by omega)
  · intro hg hS
    refine sSkip hS rfl rfl rfl (by decide) ?_; clear hS; intro aa hS
    refine sSkip hS rfl rfl rfl (by decide) ?_; clear hS; intro aa hS
    refine sSkip hS rfl rfl rfl (by decide) ?_; clear hS; intro aa hS
    refine sSkip hS rfl rfl rfl (by decide) ?_; clear hS; intro aa hS
    refine sSkip hS rfl rfl rfl (by decide) ?_; clear hS; intro aa hS
    refine sSkip hS rfl rfl rfl (by decide) ?_; clear hS; intro aa hS
    refine sSkip hS rfl rfl rfl (by decide) ?_; clear hS; intro aa hS
    refine sA hS hR (Yld.pickF hS rfl rfl) (by decide) ?_; clear hS; intro aa hS
    refine sA hS hR (Yld.assign hS rfl) (by decide) ?_; clear hS; intro aa hS
    refine wpList_nil ?_
    refine hK4 _ _ ?_
    refine wp_ret ?_
    repeat (first | with_reducible refine thenR ?_ | with_reducible refine blockR ?_ | with_reducible refine scopeR ?_)
    refine ret1 (fn := Try.f47) (e := .ret) (.inl rfl) Try.results47 hS hR ⟨_, (.tmp rfl), ?_⟩
    refine ⟨?_, (hR.sub (by repeat (first | with_reducible exact Ex.refl | (with_reducible apply Ex.take; · repeat (first | with_reducible exact Pk.here | with_reducible apply Pk.there)) | with_reducible apply Ex.drop)))⟩
    first | exact dec_iff (by constructor <;> intro h <;> omega) | exact dec_no (by omega)| exact dec_yes (by omega)
set_option maxRecDepth 20000 in
theorem lslot_ok {S n : Nat} {b : Nat} {r1 r2 r3 r4 : Option Addr} {c1 c2 c3 c4 : Nat} {l : List HP} {w : World} {i : Int} (hR : Sep (blk b [.slice r1 (S + n) c1, .int .i64 (S : Int), .slice r2 n c2, .slice r3 n c3, .slice r4 n c4] 80 :: l) w) (hp : 0 < S) : CallR Try.prog 46 [.pointer (some ⟨b, 0, none⟩), .int .i64 i] w (fun v w' => v = .bool (decide (0 ≤ i ∧ i < S)) ∧ Sep (blk b [.slice r1 (S + n) c1, .int .i64 (S : Int), .slice r2 n c2, .slice r3 n c3, .slice r4 n c4] 80 :: l) w') := by
  refine enter Try.func46 rfl Try.ntmps46 (Nat.le_of_ble_eq_true rfl) ?_; intro aa hS
  refine wp_seq_k ?_; intro K5 hK5
  refine wp_region_lit ?_
  refine sA hS hR (Yld.assign hS rfl) (by decide) ?_; clear hS; intro aa hS
  refine wpList_nil ?_
  refine hK5 _ _ ?_
  refine wp_seq_k ?_; intro K6 hK6
  refine wp_region_lit ?_
  refine sA hS hR (Yld.move hS rfl) (by decide) ?_; clear hS; intro aa hS
  refine sB (Bcall hS rfl Try.call45 (lsome_ok (hR.pk (r := blk b _ _) (by repeat (first | with_reducible exact Pk.here | with_reducible apply Pk.there))) (by omega)) (by decide) ?_); clear hS; intro aa ww vv hS hp
  clear hR
  obtain ⟨rfl, hR⟩ := hp
  refine sA hS hR (Yld.move hS rfl) (by decide) ?_; clear hS; intro aa hS
  refine sAg hS hR rfl rfl (Yld.move hS rfl) (by decide) ?_; clear hS; intro aa hS
  refine sAg hS hR rfl rfl (Yld.geq hS rfl rfl) (by decide) ?_; clear hS; intro aa hS
  refine sA hS hR (Yld.pickT hS rfl rfl) (by decide) ?_; clear hS; intro aa hS
  refine sA hS hR (Yld.move hS rfl) (by decide) ?_; clear hS; intro aa hS
  refine hS.splitB (t := 11) rfl ?_ ?_ <;> clear hS
  · intro hg hS
    refine sAg hS hR rfl rfl (Yld.move hS rfl) (by decide) ?_; clear hS; intro aa hS
    refine sAg hS hR rfl rfl (Yld.move hS rfl) (by decide) ?_; clear hS; intro aa hS
    refine sAg hS hR rfl rfl (Yld.nilCheck hS rfl) (by decide) ?_; clear hS; intro aa hS
    refine sAg hS hR rfl rfl (Yld.fieldAddr hS rfl 1 Try.underlying80 rfl rfl info3 (by decide)) (by decide) ?_; clear hS; intro aa hS
    refine sAg hS hR rfl rfl (Yld.load1 hS rfl Try.underlying3 rfl (by first | exact Rd.blk (by repeat (first | with_reducible exact Pk.here | with_reducible apply Pk.there)) (by rfl) | exact Rd.rec (by repeat (first | with_reducible exact Pk.here | with_reducible apply Pk.there)) (by intro _; rfl) (by omega) rfl | exact Rd.rec0 (by repeat (first | with_reducible exact Pk.here | with_reducible apply Pk.there)) (by intro _; rfl) (by omega) rfl | exact Rd.flatJ (by repeat (first | with_reducible exact Pk.here | with_reducible apply Pk.there)) (by intro _; rfl) (by omega) rfl | exact Rd.flat0 (by repeat (first | with_reducible exact Pk.here | with_reducible apply Pk.there)) (by intro _; rfl) (by omega) rfl)) (by decide) ?_; clear hS; intro aa hS
    refine sAg hS hR rfl rfl (Yld.lss hS rfl rfl) (by decide) ?_; clear hS; intro aa hS
    refine sA hS hR (Yld.pickT hS rfl rfl) (by decide) ?_; clear hS; intro aa hS
    refine sA hS hR (Yld.assign hS rfl) (by decide) ?_; clear hS; intro aa hS
    refine wpList_nil ?_
    refine hK6 _ _ ?_
    refine wp_ret ?_
    repeat (first | with_reducible refine thenR ?_ | with_reducible refine blockR ?_ | with_reducible refine scopeR ?_)
    refine ret1 (fn := Try.f46) (e := .ret) (.inl rfl) Try.results46 hS hR ⟨_, (.tmp rfl), ?_⟩
    refine ⟨?_, (hR.sub (by repeat (first | with_reducible exact Ex.refl | (with_reducible apply Ex.take; · repeat (first | with_reducible exact Pk.here | with_reducible apply Pk.there)) | with_reducible apply Ex.drop)))⟩
    first | exact dec_iff (by constructor <;> intro h <;> omega) | exact dec_no (by omega)| exact dec_yes (by omega)
  · intro hg hS
    refine sSkip hS rfl rfl rfl (by decide) ?_; clear hS; intro aa hS
    refine sSkip hS rfl rfl rfl (by decide) ?_; clear hS; intro aa hS
    refine sSkip hS rfl rfl rfl (by decide) ?_; clear hS; intro aa hS
    refine sSkip hS rfl rfl rfl (by decide) ?_; clear hS; intro aa hS
    refine sSkip hS rfl rfl rfl (by decide) ?_; clear hS; intro aa hS
    refine sSkip hS rfl rfl rfl (by decide) ?_; clear hS; intro aa hS
    refine sA hS hR (Yld.pickF hS rfl rfl) (by decide) ?_; clear hS; intro aa hS
    refine sA hS hR (Yld.assign hS rfl) (by decide) ?_; clear hS; intro aa hS
    refine wpList_nil ?_
    refine hK6 _ _ ?_
    refine wp_ret ?_
    repeat (first | with_reducible refine thenR ?_ | with_reducible refine blockR ?_ | with_reducible refine scopeR ?_)
    refine ret1 (fn := Try.f46) (e := .ret) (.inl rfl) Try.results46 hS hR ⟨_, (.tmp rfl), ?_⟩
    refine ⟨?_, (hR.sub (by repeat (first | with_reducible exact Ex.refl | (with_reducible apply Ex.take; · repeat (first | with_reducible exact Pk.here | with_reducible apply Pk.there)) | with_reducible apply Ex.drop)))⟩
    first | exact dec_iff (by constructor <;> intro h <;> omega) | exact dec_no (by omega)| exact dec_yes (by omega)
set_option maxRecDepth 20000 in
theorem lput_ok {S n : Nat} {b : Nat} {r1 r2 r3 r4 : Option Addr} {c1 c2 c3 c4 : Nat} {l : List HP} {w : World} {a s w9 : Nat} {P : Nat → Nat → Nat} {R : Nat → Int} (hR : Sep (blk b [.slice r1 (S + n) c1, .int .i64 (S : Int), .slice r2 n c2, .slice r3 n c3, .slice r4 n c4] 80 :: sls r1 (S + n) c1 77 3 ((nods (S + n) P R).flatMap eL) :: l) w) (hb1 : Bk r1) (ha : a < S + n) (hs : s < S + n) (hx : P w9 a < S + n) (hw : w9 < 2) : CallR Try.prog 52 [.pointer (some ⟨b, 0, none⟩), .int .i64 (a : Int), .int .i64 (s : Int), .int .i64 (w9 : Int)] w (fun v w' => v = .tuple [].toArray ∧ Sep (blk b [.slice r1 (S + n) c1, .int .i64 (S : Int), .slice r2 n c2, .slice r3 n c3, .slice r4 n c4] 80 :: sls r1 (S + n) c1 77 3 ((nods (S + n) (putP P w9 a s) R).flatMap eL) :: l) w') := by
  refine enter Try.func52 rfl Try.ntmps52 (Nat.le_of_ble_eq_true rfl) ?_; intro aa hS
  refine wp_seq_k ?_; intro K7 hK7
  refine wp_region_lit ?_
  refine sA hS hR (Yld.move hS rfl) (by decide) ?_; clear hS; intro aa hS
  refine sA hS hR (Yld.nilCheck hS rfl) (by decide) ?_; clear hS; intro aa hS
  refine sA hS hR (Yld.fieldAddr hS rfl 0 Try.underlying80 rfl rfl info78 (by decide)) (by decide) ?_; clear hS; intro aa hS
  refine sA hS hR (Yld.load1 hS rfl Try.underlying78 rfl (by first | exact Rd.blk (by repeat (first | with_reducible exact Pk.here | with_reducible apply Pk.there)) (by rfl) | exact Rd.rec (by repeat (first | with_reducible exact Pk.here | with_reducible apply Pk.there)) (by intro _; rfl) (by first | omega | (rw [nods_len]; omega) | (rw [tabN_len]; omega)) rfl | exact Rd.rec0 (by repeat (first | with_reducible exact Pk.here | with_reducible apply Pk.there)) (by intro _; rfl) (by first | omega | (rw [nods_len]; omega) | (rw [tabN_len]; omega)) rfl | exact Rd.flatJ (by repeat (first | with_reducible exact Pk.here | with_reducible apply Pk.there)) (by intro _; rfl) (by first | omega | (rw [nods_len]; omega) | (rw [tabN_len]; omega)) rfl | exact Rd.flat0 (by repeat (first | with_reducible exact Pk.here | with_reducible apply Pk.there)) (by intro _; rfl) (by first | omega | (rw [nods_len]; omega) | (rw [tabN_len]; omega)) rfl)) (by decide) ?_; clear hS; intro aa hS
  refine sA hS hR (Yld.move hS rfl) (by decide) ?_; clear hS; intro aa hS
  refine sA hS hR (Yld.move hS rfl) (by decide) ?_; clear hS; intro aa hS
  refine sA hS hR ((by first | exact Yld.indexH (sz := 3) (a) hS rfl rfl Try.underlying78 info77 (by assumption) rfl (by first | rfl | omega) (by omega) | exact Yld.indexL (sz := 3) (a) hS rfl rfl Try.underlying78 info77 (by repeat (first | with_reducible exact Pk.here | with_reducible apply Pk.there)) rfl (by first | rfl | omega) (by omega) | exact Yld.indexB (sz := 3) (a) hS rfl rfl Try.underlying78 info77 rfl (by first | rfl | omega) (by omega))) (by decide) ?_; clear hS; intro aa hS
  refine sA hS hR (Yld.fieldAddr hS rfl 0 Try.underlying77 rfl rfl info75 (by decide)) (by decide) ?_; clear hS; intro aa hS
  refine sA hS hR (Yld.to (u := .pointer (some ⟨blkOf r1, a * 3 + w9, none⟩)) (Yld.indexArr hS rfl rfl Try.underlying75 info3 (by omega) (by omega)) (by have h1 : (Try.t3).size = 1 := rfl; rw [h1]; congr 3 <;> omega)) (by decide) ?_; clear hS; intro aa hS
  refine sA hS hR (Yld.load1 hS rfl Try.underlying3 rfl (Rd.rec (k := a) (j := w9) (v := .int .i64 ((P w9 a : Nat) : Int)) (xs := nods (S + n) P R) (by repeat (first | with_reducible exact Pk.here | with_reducible apply Pk.there)) (by intro _; rfl) (by rw [nods_len]; omega) (by rw [nods_get]; exact eL_get (r := (fun d => ((P d a : Nat) : Int), R a)) (by omega)))) (by decide) ?_; clear hS; intro aa hS
  refine sA hS hR (Yld.assign hS rfl) (by decide) ?_; clear hS; intro aa hS
  refine wpList_nil ?_
  refine hK7 _ _ ?_
  refine wp_seq_k ?_; intro K8 hK8
  refine drawn (by kernel_rfl) hR (Ex.of_pk (r := sls r1 _ _ _ _ _) (by repeat (first | with_reducible exact Pk.here | with_reducible apply Pk.there))) ?_; clear hR; intro ww hR hR0
  refine dA 0 rfl (by kernel_rfl) (by kernel_rfl) (by kernel_rfl) (fun _ _ _ h => h) hS hR0 (Yld.move hS rfl) (by decide) ?_; clear hS; intro aa hS
  refine dA 1 rfl (by kernel_rfl) (by kernel_rfl) (by kernel_rfl) (fun _ _ _ h => h) hS hR0 (Yld.nilCheck hS rfl) (by decide) ?_; clear hS; intro aa hS
  refine dA 2 rfl (by kernel_rfl) (by kernel_rfl) (by kernel_rfl) (fun _ _ _ h => h) hS hR0 (Yld.fieldAddr hS rfl 0 Try.underlying80 rfl rfl info78 (by decide)) (by decide) ?_; clear hS; intro aa hS
  refine dA 3 rfl (by kernel_rfl) (by kernel_rfl) (by kernel_rfl) (fun _ _ _ h => h) hS hR0 (Yld.load1 hS rfl Try.underlying78 rfl (by first | exact Rd.blk (by repeat (first | with_reducible exact Pk.here | with_reducible apply Pk.there)) (by rfl) | exact Rd.rec (by repeat (first | with_reducible exact Pk.here | with_reducible apply Pk.there)) (by intro _; rfl) (by first | omega | (rw [nods_len]; omega) | (rw [tabN_len]; omega)) rfl | exact Rd.rec0 (by repeat (first | with_reducible exact Pk.here | with_reducible apply Pk.there)) (by intro _; rfl) (by first | omega | (rw [nods_len]; omega) | (rw [tabN_len]; omega)) rfl | exact Rd.flatJ (by repeat (first | with_reducible exact Pk.here | with_reducible apply Pk.there)) (by intro _; rfl) (by first | omega | (rw [nods_len]; omega) | (rw [tabN_len]; omega)) rfl | exact Rd.flat0 (by repeat (first | with_reducible exact Pk.here | with_reducible apply Pk.there)) (by intro _; rfl) (by first | omega | (rw [nods_len]; omega) | (rw [tabN_len]; omega)) rfl)) (by decide) ?_; clear hS; intro aa hS
  refine dA 4 rfl (by kernel_rfl) (by kernel_rfl) (by kernel_rfl) (fun _ _ _ h => h) hS hR0 (Yld.move hS rfl) (by decide) ?_; clear hS; intro aa hS
  refine dA 5 rfl (by kernel_rfl) (by kernel_rfl) (by kernel_rfl) (fun _ _ _ h => h) hS hR0 (Yld.move hS rfl) (by decide) ?_; clear hS; intro aa hS
  refine dA 6 rfl (by kernel_rfl) (by kernel_rfl) (by kernel_rfl) (fun _ _ _ h => h) hS hR0 (Yld.move hS rfl) (by decide) ?_; clear hS; intro aa hS
  refine dA 7 rfl (by kernel_rfl) (by kernel_rfl) (by kernel_rfl) (fun _ _ _ h => h) hS hR0 (Yld.nilCheck hS rfl) (by decide) ?_; clear hS; intro aa hS
  refine dA 8 rfl (by kernel_rfl) (by kernel_rfl) (by kernel_rfl) (fun _ _ _ h => h) hS hR0 (Yld.fieldAddr hS rfl 0 Try.underlying80 rfl rfl info78 (by decide)) (by decide) ?_; clear hS; intro aa hS
  refine dA 9 rfl (by kernel_rfl) (by kernel_rfl) (by kernel_rfl) (fun _ _ _ h => h) hS hR0 (Yld.load1 hS rfl Try.underlying78 rfl (by first | exact Rd.blk (by repeat (first | with_reducible exact Pk.here | with_reducible apply Pk.there)) (by rfl) | exact Rd.rec (by repeat (first | with_reducible exact Pk.here | with_reducible apply Pk.there)) (by intro _; rfl) (by first | omega | (rw [nods_len]; omega) | (rw [tabN_len]; omega)) rfl | exact Rd.rec0 (by repeat (first | with_reducible exact Pk.here | with_reducible apply Pk.there)) (by intro _; rfl) (by first | omega | (rw [nods_len]; omega) | (rw [tabN_len]; omega)) rfl | exact Rd.flatJ (by repeat (first | with_reducible exact Pk.here | with_reducible apply Pk.there)) (by intro _; rfl) (by first | omega | (rw [nods_len]; omega) | (rw [tabN_len]; omega)) rfl | exact Rd.flat0 (by repeat (first | with_reducible exact Pk.here | with_reducible apply Pk.there)) (by intro _; rfl) (by first | omega | (rw [nods_len]; omega) | (rw [tabN_len]; omega)) rfl)) (by decide) ?_; clear hS; intro aa hS
  refine dA 10 rfl (by kernel_rfl) (by kernel_rfl) (by kernel_rfl) (fun _ _ _ h => h) hS hR0 (Yld.move hS rfl) (by decide) ?_; clear hS; intro aa hS
  refine dA 11 rfl (by kernel_rfl) (by kernel_rfl) (by kernel_rfl) (fun _ _ _ h => h) hS hR0 (Yld.move hS rfl) (by decide) ?_; clear hS; intro aa hS
  refine dA 12 rfl (by kernel_rfl) (by kernel_rfl) (by kernel_rfl) (fun _ _ _ h => h) hS hR0 ((by first | exact Yld.sub64 hS rfl rfl (by omega) | exact Yld.sub hS rfl rfl)) (by decide) ?_; clear hS; intro aa hS
  refine dA 13 rfl (by kernel_rfl) (by kernel_rfl) (by kernel_rfl) (fun _ _ _ h => h) hS hR0 (Yld.move hS rfl) (by decide) ?_; clear hS; intro aa hS
  refine dA 14 rfl (by kernel_rfl) (by kernel_rfl) (by kernel_rfl) (fun _ _ _ h => h) hS hR0 (Yld.move hS rfl) (by decide) ?_; clear hS; intro aa hS
  refine dA 15 rfl (by kernel_rfl) (by kernel_rfl) (by kernel_rfl) (fun _ _ _ h => h) hS hR0 ((by first | exact Yld.indexH (sz := 3) (s) hS rfl rfl Try.underlying78 info77 (by assumption) rfl (by first | rfl | omega) (by omega) | exact Yld.indexL (sz := 3) (s) hS rfl rfl Try.underlying78 info77 (by repeat (first | with_reducible exact Pk.here | with_reducible apply Pk.there)) rfl (by first | rfl | omega) (by omega) | exact Yld.indexB (sz := 3) (s) hS rfl rfl Try.underlying78 info77 rfl (by first | rfl | omega) (by omega))) (by decide) ?_; clear hS; intro aa hS
  refine dA 16 rfl (by kernel_rfl) (by kernel_rfl) (by kernel_rfl) (fun _ _ _ h => h) hS hR0 (Yld.fieldAddr hS rfl 0 Try.underlying77 rfl rfl info75 (by decide)) (by decide) ?_; clear hS; intro aa hS
  refine dA 17 rfl (by kernel_rfl) (by kernel_rfl) (by kernel_rfl) (fun _ _ _ h => h) hS hR0 (Yld.to (u := .pointer (some ⟨blkOf r1, s * 3 + w9, none⟩)) (Yld.indexArr hS rfl rfl Try.underlying75 info3 (by omega) (by omega)) (by have h1 : (Try.t3).size = 1 := rfl; rw [h1]; congr 3 <;> omega)) (by decide) ?_; clear hS; intro aa hS
  refine dA 19 rfl (by kernel_rfl) (by kernel_rfl) (by kernel_rfl) (fun _ _ _ h => h) hS hR0 ((by first | exact Yld.indexH (sz := 3) (s) hS rfl rfl Try.underlying78 info77 (by assumption) rfl (by first | rfl | omega) (by omega) | exact Yld.indexL (sz := 3) (s) hS rfl rfl Try.underlying78 info77 (by repeat (first | with_reducible exact Pk.here | with_reducible apply Pk.there)) rfl (by first | rfl | omega) (by omega) | exact Yld.indexB (sz := 3) (s) hS rfl rfl Try.underlying78 info77 rfl (by first | rfl | omega) (by omega))) (by decide) ?_; clear hS; intro aa hS
  refine dA 20 rfl (by kernel_rfl) (by kernel_rfl) (by kernel_rfl) (fun _ _ _ h => h) hS hR0 (Yld.fieldAddr hS rfl 0 Try.underlying77 rfl rfl info75 (by decide)) (by decide) ?_; clear hS; intro aa hS
  refine dOne (i := 18) (by kernel_rfl) ?_
  refine dop rfl (BstoreN hS hR rfl rfl info3 rfl (by repeat (first | with_reducible exact Pk.here | with_reducible apply Pk.there)) (by omega) (by omega) ?_); clear hR hR0; intro ww hR
  refine dnext (hR.sub (by repeat (first | with_reducible exact Ex.refl | (with_reducible apply Ex.take; · repeat (first | with_reducible exact Pk.here | with_reducible apply Pk.there)) | with_reducible apply Ex.drop))) ?_; intro hR0
  refine dA 21 rfl (by kernel_rfl) (by kernel_rfl) (by kernel_rfl) (fun _ _ _ h => h) hS hR0 (Yld.to (u := .pointer (some ⟨blkOf r1, s * 3 + (1 - w9), none⟩)) (Yld.indexArr hS rfl rfl Try.underlying75 info3 (by omega) (by omega)) (by have h1 : (Try.t3).size = 1 := rfl; rw [h1]; congr 3 <;> omega)) (by decide) ?_; clear hS; intro aa hS
  refine dOne (i := 22) (by kernel_rfl) ?_
  refine dop rfl (BstoreN hS hR rfl rfl info3 rfl (by repeat (first | with_reducible exact Pk.here | with_reducible apply Pk.there)) (by omega) (by omega) ?_); clear hR hR0; intro ww hR
  refine dnext (hR.sub (by repeat (first | with_reducible exact Ex.refl | (with_reducible apply Ex.take; · repeat (first | with_reducible exact Pk.here | with_reducible apply Pk.there)) | with_reducible apply Ex.drop))) ?_; intro hR0
  refine wpAnyH_done (by kernel_rfl) ?_ _; clear hR0
  refine hK8 _ _ ?_
  refine drawn (by kernel_rfl) hR (Ex.of_pk (r := sls r1 _ _ _ _ _) (by repeat (first | with_reducible exact Pk.here | with_reducible apply Pk.there))) ?_; clear hR; intro ww hR hR0
  refine dA 0 rfl (by kernel_rfl) (by kernel_rfl) (by kernel_rfl) (fun _ _ _ h => h) hS hR0 (Yld.move hS rfl) (by decide) ?_; clear hS; intro aa hS
  try rw [updP_comm (P := P) (d := 1 - w9) (d' := w9) (by omega)] at hR
  obtain ⟨P1, hP1⟩ : ∃ y, updP (updP P w9 s (P w9 a)) (1 - w9) s a = y := ⟨_, rfl⟩
  rw [hP1] at hR
  refine dA 1 rfl (by kernel_rfl) (by kernel_rfl) (by kernel_rfl) (fun _ _ _ h => h) hS hR0 (Yld.nilCheck hS rfl) (by decide) ?_; clear hS; intro aa hS
  refine dA 2 rfl (by kernel_rfl) (by kernel_rfl) (by kernel_rfl) (fun _ _ _ h => h) hS hR0 (Yld.fieldAddr hS rfl 0 Try.underlying80 rfl rfl info78 (by decide)) (by decide) ?_; clear hS; intro aa hS
  refine dA 3 rfl (by kernel_rfl) (by kernel_rfl) (by kernel_rfl) (fun _ _ _ h => h) hS hR0 (Yld.load1 hS rfl Try.underlying78 rfl (by first | exact Rd.blk (by repeat (first | with_reducible exact Pk.here | with_reducible apply Pk.there)) (by rfl) | exact Rd.rec (by repeat (first | with_reducible exact Pk.here | with_reducible apply Pk.there)) (by intro _; rfl) (by first | omega | (rw [nods_len]; omega) | (rw [tabN_len]; omega)) rfl | exact Rd.rec0 (by repeat (first | with_reducible exact Pk.here | with_reducible apply Pk.there)) (by intro _; rfl) (by first | omega | (rw [nods_len]; omega) | (rw [tabN_len]; omega)) rfl | exact Rd.flatJ (by repeat (first | with_reducible exact Pk.here | with_reducible apply Pk.there)) (by intro _; rfl) (by first | omega | (rw [nods_len]; omega) | (rw [tabN_len]; omega)) rfl | exact Rd.flat0 (by repeat (first | with_reducible exact Pk.here | with_reducible apply Pk.there)) (by intro _; rfl) (by first | omega | (rw [nods_len]; omega) | (rw [tabN_len]; omega)) rfl)) (by decide) ?_; clear hS; intro aa hS
  refine dA 4 rfl (by kernel_rfl) (by kernel_rfl) (by kernel_rfl) (fun _ _ _ h => h) hS hR0 (Yld.move hS rfl) (by decide) ?_; clear hS; intro aa hS
  refine dA 5 rfl (by kernel_rfl) (by kernel_rfl) (by kernel_rfl) (fun _ _ _ h => h) hS hR0 (Yld.move hS rfl) (by decide) ?_; clear hS; intro aa hS
  refine dA 6 rfl (by kernel_rfl) (by kernel_rfl) (by kernel_rfl) (fun _ _ _ h => h) hS hR0 (Yld.move hS rfl) (by decide) ?_; clear hS; intro aa hS
  refine dA 7 rfl (by kernel_rfl) (by kernel_rfl) (by kernel_rfl) (fun _ _ _ h => h) hS hR0 (Yld.nilCheck hS rfl) (by decide) ?_; clear hS; intro aa hS
  refine dA 8 rfl (by kernel_rfl) (by kernel_rfl) (by kernel_rfl) (fun _ _ _ h => h) hS hR0 (Yld.fieldAddr hS rfl 0 Try.underlying80 rfl rfl info78 (by decide)) (by decide) ?_; clear hS; intro aa hS
  refine dA 9 rfl (by kernel_rfl) (by kernel_rfl) (by kernel_rfl) (fun _ _ _ h => h) hS hR0 (Yld.load1 hS rfl Try.underlying78 rfl (by first | exact Rd.blk (by repeat (first | with_reducible exact Pk.here | with_reducible apply Pk.there)) (by rfl) | exact Rd.rec (by repeat (first | with_reducible exact Pk.here | with_reducible apply Pk.there)) (by intro _; rfl) (by first | omega | (rw [nods_len]; omega) | (rw [tabN_len]; omega)) rfl | exact Rd.rec0 (by repeat (first | with_reducible exact Pk.here | with_reducible apply Pk.there)) (by intro _; rfl) (by first | omega | (rw [nods_len]; omega) | (rw [tabN_len]; omega)) rfl | exact Rd.flatJ (by repeat (first | with_reducible exact Pk.here | with_reducible apply Pk.there)) (by intro _; rfl) (by first | omega | (rw [nods_len]; omega) | (rw [tabN_len]; omega)) rfl | exact Rd.flat0 (by repeat (first | with_reducible exact Pk.here | with_reducible apply Pk.there)) (by intro _; rfl) (by first | omega | (rw [nods_len]; omega) | (rw [tabN_len]; omega)) rfl)) (by decide) ?_; clear hS; intro aa hS
  refine dA 10 rfl (by kernel_rfl) (by kernel_rfl) (by kernel_rfl) (fun _ _ _ h => h) hS hR0 (Yld.move hS rfl) (by decide) ?_; clear hS; intro aa hS
  refine dA 11 rfl (by kernel_rfl) (by kernel_rfl) (by kernel_rfl) (fun _ _ _ h => h) hS hR0 (Yld.move hS rfl) (by decide) ?_; clear hS; intro aa hS
  refine dA 12 rfl (by kernel_rfl) (by kernel_rfl) (by kernel_rfl) (fun _ _ _ h => h) hS hR0 ((by first | exact Yld.sub64 hS rfl rfl (by omega) | exact Yld.sub hS rfl rfl)) (by decide) ?_; clear hS; intro aa hS
  refine dA 13 rfl (by kernel_rfl) (by kernel_rfl) (by kernel_rfl) (fun _ _ _ h => h) hS hR0 (Yld.move hS rfl) (by decide) ?_; clear hS; intro aa hS
  refine dA 14 rfl (by kernel_rfl) (by kernel_rfl) (by kernel_rfl) (fun _ _ _ h => h) hS hR0 (Yld.move hS rfl) (by decide) ?_; clear hS; intro aa hS
  refine dA 15 rfl (by kernel_rfl) (by kernel_rfl) (by kernel_rfl) (fun _ _ _ h => h) hS hR0 ((by first | exact Yld.indexH (sz := 3) (a) hS rfl rfl Try.underlying78 info77 (by assumption) rfl (by first | rfl | omega) (by omega) | exact Yld.indexL (sz := 3) (a) hS rfl rfl Try.underlying78 info77 (by repeat (first | with_reducible exact Pk.here | with_reducible apply Pk.there)) rfl (by first | rfl | omega) (by omega) | exact Yld.indexB (sz := 3) (a) hS rfl rfl Try.underlying78 info77 rfl (by first | rfl | omega) (by omega))) (by decide) ?_; clear hS; intro aa hS
  refine dA 16 rfl (by kernel_rfl) (by kernel_rfl) (by kernel_rfl) (fun _ _ _ h => h) hS hR0 (Yld.fieldAddr hS rfl 0 Try.underlying77 rfl rfl info75 (by decide)) (by decide) ?_; clear hS; intro aa hS
  refine dA 17 rfl (by kernel_rfl) (by kernel_rfl) (by kernel_rfl) (fun _ _ _ h => h) hS hR0 (Yld.to (u := .pointer (some ⟨blkOf r1, a * 3 + w9, none⟩)) (Yld.indexArr hS rfl rfl Try.underlying75 info3 (by omega) (by omega)) (by have h1 : (Try.t3).size = 1 := rfl; rw [h1]; congr 3 <;> omega)) (by decide) ?_; clear hS; intro aa hS
  refine dA 19 rfl (by kernel_rfl) (by kernel_rfl) (by kernel_rfl) (fun _ _ _ h => h) hS hR0 ((by first | exact Yld.indexH (sz := 3) (P w9 a) hS rfl rfl Try.underlying78 info77 (by assumption) rfl (by first | rfl | omega) (by omega) | exact Yld.indexL (sz := 3) (P w9 a) hS rfl rfl Try.underlying78 info77 (by repeat (first | with_reducible exact Pk.here | with_reducible apply Pk.there)) rfl (by first | rfl | omega) (by omega) | exact Yld.indexB (sz := 3) (P w9 a) hS rfl rfl Try.underlying78 info77 rfl (by first | rfl | omega) (by omega))) (by decide) ?_; clear hS; intro aa hS
  refine dA 20 rfl (by kernel_rfl) (by kernel_rfl) (by kernel_rfl) (fun _ _ _ h => h) hS hR0 (Yld.fieldAddr hS rfl 0 Try.underlying77 rfl rfl info75 (by decide)) (by decide) ?_; clear hS; intro aa hS
  refine dOne (i := 18) (by kernel_rfl) ?_
  refine dop rfl (BstoreN hS hR rfl rfl info3 rfl (by repeat (first | with_reducible exact Pk.here | with_reducible apply Pk.there)) (by omega) (by omega) ?_); clear hR hR0; intro ww hR
  refine dnext (hR.sub (by repeat (first | with_reducible exact Ex.refl | (with_reducible apply Ex.take; · repeat (first | with_reducible exact Pk.here | with_reducible apply Pk.there)) | with_reducible apply Ex.drop))) ?_; intro hR0
  refine dA 21 rfl (by kernel_rfl) (by kernel_rfl) (by kernel_rfl) (fun _ _ _ h => h) hS hR0 (Yld.to (u := .pointer (some ⟨blkOf r1, (P w9 a) * 3 + (1 - w9), none⟩)) (Yld.indexArr hS rfl rfl Try.underlying75 info3 (by omega) (by omega)) (by have h1 : (Try.t3).size = 1 := rfl; rw [h1]; congr 3 <;> omega)) (by decide) ?_; clear hS; intro aa hS
  refine dOne (i := 22) (by kernel_rfl) ?_
  refine dop rfl (BstoreN hS hR rfl rfl info3 rfl (by repeat (first | with_reducible exact Pk.here | with_reducible apply Pk.there)) (by omega) (by omega) ?_); clear hR hR0; intro ww hR
  refine dnext (hR.sub (by repeat (first | with_reducible exact Ex.refl | (with_reducible apply Ex.take; · repeat (first | with_reducible exact Pk.here | with_reducible apply Pk.there)) | with_reducible apply Ex.drop))) ?_; intro hR0
  refine wpAnyH_done (by kernel_rfl) ?_ _; clear hR0
  repeat (first | with_reducible refine thenX ?_ | with_reducible refine blockX ?_ | with_reducible refine blockY (by rfl) ?_)
  refine retN (fn := Try.f52) (e := .normal) (.inr rfl) Try.results52 hS hR ⟨_, .nil, rfl, ?_⟩
  try rw [updP_comm (P := P1) (d := 1 - w9) (d' := w9) (by omega)] at hR
  have e9 : updP (updP P1 w9 a s) (1 - w9) (P w9 a) s = putP P w9 a s := by subst hP1; rfl
  rw [e9] at hR
  exact ⟨rfl, (hR.sub (by repeat (first | with_reducible exact Ex.refl | (with_reducible apply Ex.take; · repeat (first | with_reducible exact Pk.here | with_reducible apply Pk.there)) | with_reducible apply Ex.drop)))⟩
set_option maxRecDepth 20000 in
theorem lbeside_ok {S n : Nat} {b : Nat} {r1 r2 r3 r4 : Option Addr} {c1 c2 c3 c4 : Nat} {l : List HP} {w : World} {a w9 : Nat} {P : Nat → Nat → Nat} {R : Nat → Int} (hR : Sep (blk b [.slice r1 (S + n) c1, .int .i64 (S : Int), .slice r2 n c2, .slice r3 n c3, .slice r4 n c4] 80 :: sls r1 (S + n) c1 77 3 ((nods (S + n) P R).flatMap eL) :: l) w) (hb1 : Bk r1) (ha : a < S + n) (hw : w9 < 2) : CallR Try.prog 51 [.pointer (some ⟨b, 0, none⟩), .int .i64 (a : Int), .int .i64 (w9 : Int)] w (fun v w' => v = optV (if P w9 a < S then some (P w9 a) else none) ∧ Sep (blk b [.slice r1 (S + n) c1, .int .i64 (S : Int), .slice r2 n c2, .slice r3 n c3, .slice r4 n c4] 80 :: sls r1 (S + n) c1 77 3 ((nods (S + n) P R).flatMap eL) :: l) w') := by
  refine enter Try.func51 rfl Try.ntmps51 (Nat.le_of_ble_eq_true rfl) ?_; intro aa hS
  refine wp_seq_k ?_; intro K9 hK9
  refine wp_region_lit ?_
  refine sA hS hR (Yld.assign hS rfl) (by decide) ?_; clear hS; intro aa hS
  refine sA hS hR (Yld.assign hS rfl) (by decide) ?_; clear hS; intro aa hS
  refine wpList_nil ?_
  refine hK9 _ _ ?_
  refine wp_seq_k ?_; intro K10 hK10
  refine wp_seq_k ?_; intro K11 hK11
  refine wp_region_lit ?_
  refine sA hS hR (Yld.move hS rfl) (by decide) ?_; clear hS; intro aa hS
  refine sA hS hR (Yld.nilCheck hS rfl) (by decide) ?_; clear hS; intro aa hS
  refine sA hS hR (Yld.fieldAddr hS rfl 0 Try.underlying80 rfl rfl info78 (by decide)) (by decide) ?_; clear hS; intro aa hS
  refine sA hS hR (Yld.load1 hS rfl Try.underlying78 rfl (by first | exact Rd.blk (by repeat (first | with_reducible exact Pk.here | with_reducible apply Pk.there)) (by rfl) | exact Rd.rec (by repeat (first | with_reducible exact Pk.here | with_reducible apply Pk.there)) (by intro _; rfl) (by first | omega | (rw [nods_len]; omega) | (rw [tabN_len]; omega)) rfl | exact Rd.rec0 (by repeat (first | with_reducible exact Pk.here | with_reducible apply Pk.there)) (by intro _; rfl) (by first | omega | (rw [nods_len]; omega) | (rw [tabN_len]; omega)) rfl | exact Rd.flatJ (by repeat (first | with_reducible exact Pk.here | with_reducible apply Pk.there)) (by intro _; rfl) (by first | omega | (rw [nods_len]; omega) | (rw [tabN_len]; omega)) rfl | exact Rd.flat0 (by repeat (first | with_reducible exact Pk.here | with_reducible apply Pk.there)) (by intro _; rfl) (by first | omega | (rw [nods_len]; omega) | (rw [tabN_len]; omega)) rfl)) (by decide) ?_; clear hS; intro aa hS
  refine sA hS hR (Yld.move hS rfl) (by decide) ?_; clear hS; intro aa hS
  refine sA hS hR (Yld.move hS rfl) (by decide) ?_; clear hS; intro aa hS
  refine sA hS hR ((by first | exact Yld.indexH (sz := 3) (a) hS rfl rfl Try.underlying78 info77 (by assumption) rfl (by first | rfl | omega) (by omega) | exact Yld.indexL (sz := 3) (a) hS rfl rfl Try.underlying78 info77 (by repeat (first | with_reducible exact Pk.here | with_reducible apply Pk.there)) rfl (by first | rfl | omega) (by omega) | exact Yld.indexB (sz := 3) (a) hS rfl rfl Try.underlying78 info77 rfl (by first | rfl | omega) (by omega))) (by decide) ?_; clear hS; intro aa hS
  refine sA hS hR (Yld.fieldAddr hS rfl 0 Try.underlying77 rfl rfl info75 (by decide)) (by decide) ?_; clear hS; intro aa hS
  refine sA hS hR (Yld.to (u := .pointer (some ⟨blkOf r1, a * 3 + w9, none⟩)) (Yld.indexArr hS rfl rfl Try.underlying75 info3 (by omega) (by omega)) (by have h1 : (Try.t3).size = 1 := rfl; rw [h1]; congr 3 <;> omega)) (by decide) ?_; clear hS; intro aa hS
  refine sA hS hR (Yld.load1 hS rfl Try.underlying3 rfl (Rd.rec (k := a) (j := w9) (v := .int .i64 ((P w9 a : Nat) : Int)) (xs := nods (S + n) P R) (by repeat (first | with_reducible exact Pk.here | with_reducible apply Pk.there)) (by intro _; rfl) (by rw [nods_len]; omega) (by rw [nods_get]; exact eL_get (r := (fun d => ((P d a : Nat) : Int), R a)) (by omega)))) (by decide) ?_; clear hS; intro aa hS
  refine sA hS hR (Yld.assign hS rfl) (by decide) ?_; clear hS; intro aa hS
  refine wpList_nil ?_
  refine hK11 _ _ ?_
  refine wp_seq_k ?_; intro K12 hK12
  refine wp_region_lit ?_
  refine sA hS hR (Yld.move hS rfl) (by decide) ?_; clear hS; intro aa hS
  refine sA hS hR (Yld.move hS rfl) (by decide) ?_; clear hS; intro aa hS
  refine sA hS hR (Yld.nilCheck hS rfl) (by decide) ?_; clear hS; intro aa hS
  refine sA hS hR (Yld.fieldAddr hS rfl 1 Try.underlying80 rfl rfl info3 (by decide)) (by decide) ?_; clear hS; intro aa hS
  refine sA hS hR (Yld.load1 hS rfl Try.underlying3 rfl (by first | exact Rd.blk (by repeat (first | with_reducible exact Pk.here | with_reducible apply Pk.there)) (by rfl) | exact Rd.rec (by repeat (first | with_reducible exact Pk.here | with_reducible apply Pk.there)) (by intro _; rfl) (by first | omega | (rw [nods_len]; omega) | (rw [tabN_len]; omega)) rfl | exact Rd.rec0 (by repeat (first | with_reducible exact Pk.here | with_reducible apply Pk.there)) (by intro _; rfl) (by first | omega | (rw [nods_len]; omega) | (rw [tabN_len]; omega)) rfl | exact Rd.flatJ (by repeat (first | with_reducible exact Pk.here | with_reducible apply Pk.there)) (by intro _; rfl) (by first | omega | (rw [nods_len]; omega) | (rw [tabN_len]; omega)) rfl | exact Rd.flat0 (by repeat (first | with_reducible exact Pk.here | with_reducible apply Pk.there)) (by intro _; rfl) (by first | omega | (rw [nods_len]; omega) | (rw [tabN_len]; omega)) rfl)) (by decide) ?_; clear hS; intro aa hS
  refine sA hS hR (Yld.lss hS rfl rfl) (by decide) ?_; clear hS; intro aa hS
  refine wpList_nil ?_
  refine hK12 _ _ ?_
  refine hS.splitB (t := 24) rfl ?_ ?_ <;> clear hS
  · intro hg hS
    refine condT hS rfl ?_
    refine wp_seq_k ?_; intro K13 hK13
    refine wp_region_lit ?_
    refine sA hS hR (Yld.move hS rfl) (by decide) ?_; clear hS; intro aa hS
    refine sA hS hR (Yld.assign hS rfl) (by decide) ?_; clear hS; intro aa hS
    refine sA hS hR (Yld.assign hS rfl) (by decide) ?_; clear hS; intro aa hS
    refine wpList_nil ?_
    refine hK13 _ _ ?_
    refine wp_ret ?_
    repeat (first | with_reducible refine thenR ?_ | with_reducible refine blockR ?_ | with_reducible refine scopeR ?_)
    refine retN (fn := Try.f51) (e := .ret) (.inl rfl) Try.results51 hS hR ⟨_, .cons (.tmp rfl) (.cons (.tmp rfl) (.nil)), rfl, ?_⟩
    refine ⟨?_, (hR.sub (by repeat (first | with_reducible exact Ex.refl | (with_reducible apply Ex.take; · repeat (first | with_reducible exact Pk.here | with_reducible apply Pk.there)) | with_reducible apply Ex.drop)))⟩
    first | (rw [if_pos (by omega)]; rfl) | (rw [if_neg (by omega)]; rfl)
  · intro hg hS
    refine condF hS rfl ?_
    refine wp_skip ?_
    refine hK10 _ _ ?_
    refine wp_seq_k ?_; intro K14 hK14
    refine wp_region_lit ?_
    refine sA hS hR (Yld.assign hS rfl) (by decide) ?_; clear hS; intro aa hS
    refine sA hS hR (Yld.assign hS rfl) (by decide) ?_; clear hS; intro aa hS
    refine wpList_nil ?_
    refine hK14 _ _ ?_
    refine wp_ret ?_
    repeat (first | with_reducible refine thenR ?_ | with_reducible refine blockR ?_ | with_reducible refine scopeR ?_)
    refine retN (fn := Try.f51) (e := .ret) (.inl rfl) Try.results51 hS hR ⟨_, .cons (.tmp rfl) (.cons (.tmp rfl) (.nil)), rfl, ?_⟩
    refine ⟨?_, (hR.sub (by repeat (first | with_reducible exact Ex.refl | (with_reducible apply Ex.take; · repeat (first | with_reducible exact Pk.here | with_reducible apply Pk.there)) | with_reducible apply Ex.drop)))⟩
    first | (rw [if_pos (by omega)]; rfl) | (rw [if_neg (by omega)]; rfl)
end Go.Proofs.Ytojeibjlkbffcaa.Sx
