/-
  
-/
import Derived.Test.YtojeibjlkbffcaaLsA
import Derived.Test.YtojeibjlkbffcaaLru4
namespace Go.Proofs.Ytojeibjlkbffcaa.Sx
open Go
set_option linter.unusedVariables false
set_option linter.unusedSimpArgs false

theorem bld65_0 (x0_a : Option Addr) (x0_n x0_c : Nat) (w : World) : (Instr.build 65 [(0, .slice x0_a x0_n x0_c)].toArray).run Try.prog w = .ok (.agg [.slice x0_a x0_n x0_c, .int .i64 0].toArray) w := by kernel_rfl

abbrev rluL (TR TI b2 S : Nat) (tm : Nat → Int) (now : Int) (x : Option Addr × Nat) : List HP := [blk b2 [.slice x.1 S x.2, .int .i64 now] TR, sls x.1 S x.2 TI 1 ((tab S tm).flatMap e1)]
def rluA (TR TI b2 S : Nat) (tm : Nat → Int) (now : Int) : HP := box (fun _ : Option Addr × Nat => True) (rluL TR TI b2 S tm now)
theorem Sep.rluE {TR TI b2 S : Nat} {tm : Nat → Int} {now : Int} {l : List HP} {w : World} (hS : 1 ≤ S) (h : Sep (rluA TR TI b2 S tm now :: l) w) : ∃ r2 c2, Bk r2 ∧ Sep (blk b2 [.slice r2 S c2, .int .i64 now] TR :: sls r2 S c2 TI 1 ((tab S tm).flatMap e1) :: l) w := by
  obtain ⟨x, _, h2⟩ := h.boxE
  exact ⟨x.1, x.2, (h2.pk (.there .here)).bk hS, h2⟩
theorem Sep.rluI {TR TI b2 S c2 : Nat} {r2 : Option Addr} {tm : Nat → Int} {now : Int} {l : List HP} {w : World} (h : Sep (blk b2 [.slice r2 S c2, .int .i64 now] TR :: sls r2 S c2 TI 1 ((tab S tm).flatMap e1) :: l) w) : Sep (rluA TR TI b2 S tm now :: l) w := Sep.boxI (r2, c2) trivial h
set_option maxRecDepth 20000 in
theorem URight_ok {n : Int} {l : List HP} {w : World} (hR : Sep l w) : CallR Try.prog 22 [.int .i64 n] w (fun v w' => v = .bool (decide (1 ≤ n ∧ n ≤ 4096)) ∧ Sep l w') := by
  refine enter Try.func22 rfl Try.ntmps22 (Nat.le_of_ble_eq_true rfl) ?_; intro aa hS
  refine wp_seq_k ?_; intro K388 hK388
  refine wp_region_lit ?_
  refine sA hS hR (Yld.assign hS rfl) (by decide) ?_; clear hS; intro aa hS
  refine wpList_nil ?_
  refine hK388 _ _ ?_
  refine wp_seq_k ?_; intro K389 hK389
  refine wp_region_lit ?_
  refine sA hS hR (Yld.move hS rfl) (by decide) ?_; clear hS; intro aa hS
  refine sA hS hR (Yld.geq hS rfl rfl) (by decide) ?_; clear hS; intro aa hS
  refine sA hS hR (Yld.move hS rfl) (by decide) ?_; clear hS; intro aa hS
  refine hS.splitB (t := 5) rfl ?_ ?_ <;> clear hS
  · intro hg hS
    refine sAg hS hR rfl rfl (Yld.move hS rfl) (by decide) ?_; clear hS; intro aa hS
    refine sAg hS hR rfl rfl (Yld.leq hS rfl rfl) (by decide) ?_; clear hS; intro aa hS
    refine sA hS hR (Yld.pickT hS rfl rfl) (by decide) ?_; clear hS; intro aa hS
    refine sA hS hR (Yld.assign hS rfl) (by decide) ?_; clear hS; intro aa hS
    refine wpList_nil ?_
    refine hK389 _ _ ?_
    refine wp_ret ?_
    repeat (first | with_reducible refine thenR ?_ | with_reducible refine blockR ?_ | with_reducible refine scopeR ?_)
    refine ret1 (fn := Try.f22) (e := .ret) (.inl rfl) Try.results22 hS hR ⟨_, (.tmp rfl), ?_⟩
    refine ⟨?_, (hR.sub (by repeat (first | with_reducible exact Ex.refl | (with_reducible apply Ex.take; · repeat (first | with_reducible exact Pk.here | with_reducible apply Pk.there)) | with_reducible apply Ex.drop)))⟩
    first | exact dec_iff (by constructor <;> intro h <;> omega) | exact dec_no (by omega)| exact dec_yes (by omega)
  · intro hg hS
    refine sSkip hS rfl rfl rfl (by decide) ?_; clear hS; intro aa hS
    refine sSkip hS rfl rfl rfl (by decide) ?_; clear hS; intro aa hS
    refine sA hS hR (Yld.pickF hS rfl rfl) (by decide) ?_; clear hS; intro aa hS
    refine sA hS hR (Yld.assign hS rfl) (by decide) ?_; clear hS; intro aa hS
    refine wpList_nil ?_
    refine hK389 _ _ ?_
    refine wp_ret ?_
    repeat (first | with_reducible refine thenR ?_ | with_reducible refine blockR ?_ | with_reducible refine scopeR ?_)
    refine ret1 (fn := Try.f22) (e := .ret) (.inl rfl) Try.results22 hS hR ⟨_, (.tmp rfl), ?_⟩
    refine ⟨?_, (hR.sub (by repeat (first | with_reducible exact Ex.refl | (with_reducible apply Ex.take; · repeat (first | with_reducible exact Pk.here | with_reducible apply Pk.there)) | with_reducible apply Ex.drop)))⟩
    first | exact dec_iff (by constructor <;> intro h <;> omega) | exact dec_no (by omega)| exact dec_yes (by omega)
set_option maxRecDepth 20000 in
theorem UNew_ok {S : Nat} {l : List HP} {w : World} (hR : Sep l w) (h1 : 1 ≤ S) (h2 : S ≤ 8192) : CallR Try.prog 23 [.int .i64 (S : Int)] w (fun v w' => ∃ b2, v = .pointer (some ⟨b2, 0, none⟩) ∧ Sep (rluA 65 3 b2 S (fun _ => 0) 0 :: l) w') := by
  refine enter Try.func23 rfl Try.ntmps23 (Nat.le_of_ble_eq_true rfl) ?_; intro aa hS
  refine wp_seq_k ?_; intro K390 hK390
  refine wp_region_lit ?_
  refine sA hS hR (Yld.assign hS rfl) (by decide) ?_; clear hS; intro aa hS
  refine wpList_nil ?_
  refine hK390 _ _ ?_
  refine wp_seq_k ?_; intro K391 hK391
  refine wp_region_lit ?_
  refine sA hS hR (Yld.move hS rfl) (by decide) ?_; clear hS; intro aa hS
  refine sB (Bmake (zc := [.int .i64 0]) hS hR rfl rfl Try.underlying27 info3 rfl (by rfl) (by rfl) (by decide) (by omega) (by show ((8 : Nat) : Int) * _ ≤ _; omega) (by omega) (by decide) ?_); clear hS hR; intro aa ww bb4 hS hR
  rw [show ((S : Int)).toNat = S from by omega] at hS hR
  replace hR := hR.pk (r := blk bb4 _ _) (by repeat (first | with_reducible exact Pk.here | with_reducible apply Pk.there))
  rw [new_zeros] at hR
  replace hR := Sep.toRecs (m := S) (sz := 1) (enc := e1) (tab S (fun _ => 0)) hR rfl (by intro _; rfl) (by rw [tab_len])
  refine sA hS hR (Yld.build hS rfl (bld65_0 _ _ _)) (by decide) ?_; clear hS; intro aa hS
  refine sB (Bbox hS hR rfl (by rfl) (by decide) ?_); clear hS hR; intro aa ww bb6 hS hR
  refine sA hS hR (Yld.assign hS rfl) (by decide) ?_; clear hS; intro aa hS
  refine wpList_nil ?_
  refine hK391 _ _ ?_
  refine wp_ret ?_
  repeat (first | with_reducible refine thenR ?_ | with_reducible refine blockR ?_ | with_reducible refine scopeR ?_)
  refine ret1 (fn := Try.f23) (e := .ret) (.inl rfl) Try.results23 hS hR ⟨_, (.tmp rfl), ?_⟩
  exact ⟨_, rfl, Sep.rluI (hR.sub (by repeat (first | with_reducible exact Ex.refl | (with_reducible apply Ex.take; · repeat (first | with_reducible exact Pk.here | with_reducible apply Pk.there)) | with_reducible apply Ex.drop)))⟩
set_option maxRecDepth 20000 in
theorem USee_ok {S b2 : Nat} {ord : List Nat} {T tm : Nat → Int} {now : Int} {l : List HP} {w : World} (h1 : 1 ≤ S) (h2 : S ≤ 8192) {i : Int} (hn : 0 ≤ now ∧ now ≤ 4611686018427387904) (hR : Sep (rluA 65 3 b2 S tm now :: l) w) : CallR Try.prog 38 [.pointer (some ⟨b2, 0, none⟩), .int .i64 i] w (fun v w' => v = seeV S now i ∧ Sep (rluA 65 3 b2 S (seeT S tm now i) (seeN S now i) :: l) w') := by
  refine enter Try.func38 rfl Try.ntmps38 (Nat.le_of_ble_eq_true rfl) ?_; intro aa hS
  obtain ⟨r2, c2, hb2, hR⟩ := hR.rluE h1
  refine wp_seq_k ?_; intro K392 hK392
  refine wp_region_lit ?_
  refine sA hS hR (Yld.assign hS rfl) (by decide) ?_; clear hS; intro aa hS
  refine sA hS hR (Yld.assign hS rfl) (by decide) ?_; clear hS; intro aa hS
  refine wpList_nil ?_
  refine hK392 _ _ ?_
  refine wp_seq_k ?_; intro K393 hK393
  refine wp_seq_k ?_; intro K394 hK394
  refine wp_region_lit ?_
  refine sA hS hR (Yld.move hS rfl) (by decide) ?_; clear hS; intro aa hS
  refine sA hS hR (Yld.lss hS rfl rfl) (by decide) ?_; clear hS; intro aa hS
  refine sA hS hR (Yld.move hS rfl) (by decide) ?_; clear hS; intro aa hS
  refine hS.splitB (t := 8) rfl ?_ ?_ <;> clear hS
  · intro hg hS
    refine sSkip hS rfl rfl rfl (by decide) ?_; clear hS; intro aa hS
    refine sSkip hS rfl rfl rfl (by decide) ?_; clear hS; intro aa hS
    refine sSkip hS rfl rfl rfl (by decide) ?_; clear hS; intro aa hS
    refine sSkip hS rfl rfl rfl (by decide) ?_; clear hS; intro aa hS
    refine sSkip hS rfl rfl rfl (by decide) ?_; clear hS; intro aa hS
    refine sSkip hS rfl rfl rfl (by decide) ?_; clear hS; intro aa hS
    refine sSkip hS rfl rfl rfl (by decide) ?_; clear hS; intro aa hS
    refine sA hS hR (Yld.pickT hS rfl rfl) (by decide) ?_; clear hS; intro aa hS
    refine wpList_nil ?_
    refine hK394 _ _ ?_
    refine condT hS rfl ?_
    refine wp_seq_k ?_; intro K395 hK395
    refine wp_region_lit ?_
    refine sA hS hR (Yld.assign hS rfl) (by decide) ?_; clear hS; intro aa hS
    refine sA hS hR (Yld.assign hS rfl) (by decide) ?_; clear hS; intro aa hS
    refine wpList_nil ?_
    refine hK395 _ _ ?_
    refine wp_ret ?_
    repeat (first | with_reducible refine thenR ?_ | with_reducible refine blockR ?_ | with_reducible refine scopeR ?_)
    refine retN (fn := Try.f38) (e := .ret) (.inl rfl) Try.results38 hS hR ⟨_, .cons (.tmp rfl) (.cons (.tmp rfl) (.nil)), rfl, ?_⟩
    have hbad : ¬ (0 ≤ i ∧ i < S) := by omega
    refine ⟨by rw [see_outV hbad], ?_⟩
    rw [see_outT hbad, see_outN hbad]
    exact Sep.rluI (TR := 65) (TI := 3) (b2 := b2) (hR.sub (by repeat (first | with_reducible exact Ex.refl | (with_reducible apply Ex.take; · repeat (first | with_reducible exact Pk.here | with_reducible apply Pk.there)) | with_reducible apply Ex.drop)))
  · intro hg hS
    refine sAg hS hR rfl rfl (Yld.move hS rfl) (by decide) ?_; clear hS; intro aa hS
    refine sAg hS hR rfl rfl (Yld.move hS rfl) (by decide) ?_; clear hS; intro aa hS
    refine sAg hS hR rfl rfl (Yld.nilCheck hS rfl) (by decide) ?_; clear hS; intro aa hS
    refine sAg hS hR rfl rfl (Yld.fieldAddr hS rfl 0 Try.underlying65 rfl rfl info27 (by decide)) (by decide) ?_; clear hS; intro aa hS
    refine sAg hS hR rfl rfl (Yld.load1 hS rfl Try.underlying27 rfl (by first | exact Rd.blk (by repeat (first | with_reducible exact Pk.here | with_reducible apply Pk.there)) (by rfl) | exact Rd.rec (by repeat (first | with_reducible exact Pk.here | with_reducible apply Pk.there)) (by intro _; rfl) (by first | omega | (rw [tab_len]; omega)) rfl | exact Rd.rec0 (by repeat (first | with_reducible exact Pk.here | with_reducible apply Pk.there)) (by intro _; rfl) (by first | omega | (rw [tab_len]; omega)) rfl | exact Rd.flatJ (by repeat (first | with_reducible exact Pk.here | with_reducible apply Pk.there)) (by intro _; rfl) (by first | omega | (rw [tab_len]; omega)) rfl | exact Rd.flat0 (by repeat (first | with_reducible exact Pk.here | with_reducible apply Pk.there)) (by intro _; rfl) (by first | omega | (rw [tab_len]; omega)) rfl)) (by decide) ?_; clear hS; intro aa hS
    refine sAg hS hR rfl rfl (Yld.len hS rfl Try.underlying27) (by decide) ?_; clear hS; intro aa hS
    refine sAg hS hR rfl rfl (Yld.geq hS rfl rfl) (by decide) ?_; clear hS; intro aa hS
    refine sA hS hR (Yld.pickF hS rfl rfl) (by decide) ?_; clear hS; intro aa hS
    refine wpList_nil ?_
    refine hK394 _ _ ?_
    refine hS.splitB (t := 16) rfl ?_ ?_ <;> clear hS
    · intro hg hS
      refine condT hS rfl ?_
      refine wp_seq_k ?_; intro K396 hK396
      refine wp_region_lit ?_
      refine sA hS hR (Yld.assign hS rfl) (by decide) ?_; clear hS; intro aa hS
      refine sA hS hR (Yld.assign hS rfl) (by decide) ?_; clear hS; intro aa hS
      refine wpList_nil ?_
      refine hK396 _ _ ?_
      refine wp_ret ?_
      repeat (first | with_reducible refine thenR ?_ | with_reducible refine blockR ?_ | with_reducible refine scopeR ?_)
      refine retN (fn := Try.f38) (e := .ret) (.inl rfl) Try.results38 hS hR ⟨_, .cons (.tmp rfl) (.cons (.tmp rfl) (.nil)), rfl, ?_⟩
      have hbad : ¬ (0 ≤ i ∧ i < S) := by omega
      refine ⟨by rw [see_outV hbad], ?_⟩
      rw [see_outT hbad, see_outN hbad]
      exact Sep.rluI (TR := 65) (TI := 3) (b2 := b2) (hR.sub (by repeat (first | with_reducible exact Ex.refl | (with_reducible apply Ex.take; · repeat (first | with_reducible exact Pk.here | with_reducible apply Pk.there)) | with_reducible apply Ex.drop)))
    · intro hg hS
      obtain ⟨i, rfl⟩ : ∃ z9 : Nat, i = z9 := ⟨(i).toNat, by omega⟩
      have hi : i < S := by omega
      refine condF hS rfl ?_
      refine wp_skip ?_
      refine hK393 _ _ ?_
      refine wp_seq_k ?_; intro K397 hK397
      refine wp_region_lit ?_
      refine sA hS hR (Yld.move hS rfl) (by decide) ?_; clear hS; intro aa hS
      refine sA hS hR (Yld.move hS rfl) (by decide) ?_; clear hS; intro aa hS
      refine sA hS hR (Yld.nilCheck hS rfl) (by decide) ?_; clear hS; intro aa hS
      refine sA hS hR (Yld.fieldAddr hS rfl 1 Try.underlying65 rfl rfl info3 (by decide)) (by decide) ?_; clear hS; intro aa hS
      refine sA hS hR (Yld.load1 hS rfl Try.underlying3 rfl (by first | exact Rd.blk (by repeat (first | with_reducible exact Pk.here | with_reducible apply Pk.there)) (by rfl) | exact Rd.rec (by repeat (first | with_reducible exact Pk.here | with_reducible apply Pk.there)) (by intro _; rfl) (by first | omega | (rw [tab_len]; omega)) rfl | exact Rd.rec0 (by repeat (first | with_reducible exact Pk.here | with_reducible apply Pk.there)) (by intro _; rfl) (by first | omega | (rw [tab_len]; omega)) rfl | exact Rd.flatJ (by repeat (first | with_reducible exact Pk.here | with_reducible apply Pk.there)) (by intro _; rfl) (by first | omega | (rw [tab_len]; omega)) rfl | exact Rd.flat0 (by repeat (first | with_reducible exact Pk.here | with_reducible apply Pk.there)) (by intro _; rfl) (by first | omega | (rw [tab_len]; omega)) rfl)) (by decide) ?_; clear hS; intro aa hS
      refine sA hS hR ((by first | exact Yld.add64 hS rfl rfl (by omega) | exact Yld.add hS rfl rfl)) (by decide) ?_; clear hS; intro aa hS
      refine sA hS hR (Yld.nilCheck hS rfl) (by decide) ?_; clear hS; intro aa hS
      refine sA hS hR (Yld.fieldAddr hS rfl 1 Try.underlying65 rfl rfl info3 (by decide)) (by decide) ?_; clear hS; intro aa hS
      refine sB (Bstore hS hR rfl rfl (by rfl) info3 (by rfl) (by repeat (first | with_reducible exact Pk.here | with_reducible apply Pk.there)) (by rfl) (Nat.le_of_ble_eq_true rfl) ?_); clear hR; intro ww hR
      refine wpList_nil ?_
      refine hK397 _ _ ?_
      refine wp_seq_k ?_; intro K398 hK398
      refine drawn (by kernel_rfl) hR (Ex.of_pk (r := sls r2 _ _ _ _ _) (by repeat (first | with_reducible exact Pk.here | with_reducible apply Pk.there))) ?_; clear hR; intro ww hR hR0
      refine dA 0 rfl (by kernel_rfl) (by kernel_rfl) (by kernel_rfl) (fun _ _ _ h => h) hS hR0 (Yld.move hS rfl) (by decide) ?_; clear hS; intro aa hS
      refine dA 1 rfl (by kernel_rfl) (by kernel_rfl) (by kernel_rfl) (fun _ _ _ h => h) hS hR0 (Yld.nilCheck hS rfl) (by decide) ?_; clear hS; intro aa hS
      refine dA 2 rfl (by kernel_rfl) (by kernel_rfl) (by kernel_rfl) (fun _ _ _ h => h) hS hR0 (Yld.fieldAddr hS rfl 0 Try.underlying65 rfl rfl info27 (by decide)) (by decide) ?_; clear hS; intro aa hS
      refine dA 3 rfl (by kernel_rfl) (by kernel_rfl) (by kernel_rfl) (fun _ _ _ h => h) hS hR0 (Yld.load1 hS rfl Try.underlying27 rfl (by first | exact Rd.blk (by repeat (first | with_reducible exact Pk.here | with_reducible apply Pk.there)) (by rfl) | exact Rd.rec (by repeat (first | with_reducible exact Pk.here | with_reducible apply Pk.there)) (by intro _; rfl) (by first | omega | (rw [tab_len]; omega)) rfl | exact Rd.rec0 (by repeat (first | with_reducible exact Pk.here | with_reducible apply Pk.there)) (by intro _; rfl) (by first | omega | (rw [tab_len]; omega)) rfl | exact Rd.flatJ (by repeat (first | with_reducible exact Pk.here | with_reducible apply Pk.there)) (by intro _; rfl) (by first | omega | (rw [tab_len]; omega)) rfl | exact Rd.flat0 (by repeat (first | with_reducible exact Pk.here | with_reducible apply Pk.there)) (by intro _; rfl) (by first | omega | (rw [tab_len]; omega)) rfl)) (by decide) ?_; clear hS; intro aa hS
      refine dA 4 rfl (by kernel_rfl) (by kernel_rfl) (by kernel_rfl) (fun _ _ _ h => h) hS hR0 (Yld.move hS rfl) (by decide) ?_; clear hS; intro aa hS
      refine dA 5 rfl (by kernel_rfl) (by kernel_rfl) (by kernel_rfl) (fun _ _ _ h => h) hS hR0 (Yld.move hS rfl) (by decide) ?_; clear hS; intro aa hS
      refine dA 6 rfl (by kernel_rfl) (by kernel_rfl) (by kernel_rfl) (fun _ _ _ h => h) hS hR0 (Yld.nilCheck hS rfl) (by decide) ?_; clear hS; intro aa hS
      refine dA 7 rfl (by kernel_rfl) (by kernel_rfl) (by kernel_rfl) (fun _ _ _ h => h) hS hR0 (Yld.fieldAddr hS rfl 1 Try.underlying65 rfl rfl info3 (by decide)) (by decide) ?_; clear hS; intro aa hS
      refine dA 8 rfl (by kernel_rfl) (by kernel_rfl) (by kernel_rfl) (fun _ _ _ h => h) hS hR0 (Yld.load1 hS rfl Try.underlying3 rfl (by first | exact Rd.blk (by repeat (first | with_reducible exact Pk.here | with_reducible apply Pk.there)) (by rfl) | exact Rd.rec (by repeat (first | with_reducible exact Pk.here | with_reducible apply Pk.there)) (by intro _; rfl) (by first | omega | (rw [tab_len]; omega)) rfl | exact Rd.rec0 (by repeat (first | with_reducible exact Pk.here | with_reducible apply Pk.there)) (by intro _; rfl) (by first | omega | (rw [tab_len]; omega)) rfl | exact Rd.flatJ (by repeat (first | with_reducible exact Pk.here | with_reducible apply Pk.there)) (by intro _; rfl) (by first | omega | (rw [tab_len]; omega)) rfl | exact Rd.flat0 (by repeat (first | with_reducible exact Pk.here | with_reducible apply Pk.there)) (by intro _; rfl) (by first | omega | (rw [tab_len]; omega)) rfl)) (by decide) ?_; clear hS; intro aa hS
      refine dA 9 rfl (by kernel_rfl) (by kernel_rfl) (by kernel_rfl) (fun _ _ _ h => h) hS hR0 ((by first | exact Yld.indexH (sz := 1) (i) hS rfl rfl Try.underlying27 info3 (by assumption) rfl (by first | rfl | omega) (by omega) | exact Yld.indexL (sz := 1) (i) hS rfl rfl Try.underlying27 info3 (by repeat (first | with_reducible exact Pk.here | with_reducible apply Pk.there)) rfl (by first | rfl | omega) (by omega) | exact Yld.indexB (sz := 1) (i) hS rfl rfl Try.underlying27 info3 rfl (by first | rfl | omega) (by omega))) (by decide) ?_; clear hS; intro aa hS
      refine dOne (i := 10) (by kernel_rfl) ?_
      refine dop rfl (BstoreR0 (now + 1) hS hR rfl rfl (by rfl) info3 (by rfl) (by repeat (first | with_reducible exact Pk.here | with_reducible apply Pk.there)) (by rfl) (by intro _; rfl) (by first | omega | (rw [tab_len]; omega)) (by first | exact Nat.le_of_ble_eq_true rfl | (simp only [List.length_singleton]; omega)) (Nat.le_of_ble_eq_true rfl) (by rfl) ?_); clear hR hR0; intro ww hR
      refine dnext (hR.sub (by repeat (first | with_reducible exact Ex.refl | (with_reducible apply Ex.take; · repeat (first | with_reducible exact Pk.here | with_reducible apply Pk.there)) | with_reducible apply Ex.drop))) ?_; intro hR0
      rw [tab_set] at hR
      refine wpAnyH_done (by kernel_rfl) ?_ _; clear hR0
      refine hK398 _ _ ?_
      refine wp_seq_k ?_; intro K399 hK399
      refine wp_region_lit ?_
      refine sA hS hR (Yld.move hS rfl) (by decide) ?_; clear hS; intro aa hS
      refine sA hS hR (Yld.nilCheck hS rfl) (by decide) ?_; clear hS; intro aa hS
      refine sA hS hR (Yld.fieldAddr hS rfl 1 Try.underlying65 rfl rfl info3 (by decide)) (by decide) ?_; clear hS; intro aa hS
      refine sA hS hR (Yld.load1 hS rfl Try.underlying3 rfl (by first | exact Rd.blk (by repeat (first | with_reducible exact Pk.here | with_reducible apply Pk.there)) (by rfl) | exact Rd.rec (by repeat (first | with_reducible exact Pk.here | with_reducible apply Pk.there)) (by intro _; rfl) (by first | omega | (rw [tab_len]; omega)) rfl | exact Rd.rec0 (by repeat (first | with_reducible exact Pk.here | with_reducible apply Pk.there)) (by intro _; rfl) (by first | omega | (rw [tab_len]; omega)) rfl | exact Rd.flatJ (by repeat (first | with_reducible exact Pk.here | with_reducible apply Pk.there)) (by intro _; rfl) (by first | omega | (rw [tab_len]; omega)) rfl | exact Rd.flat0 (by repeat (first | with_reducible exact Pk.here | with_reducible apply Pk.there)) (by intro _; rfl) (by first | omega | (rw [tab_len]; omega)) rfl)) (by decide) ?_; clear hS; intro aa hS
      refine sA hS hR (Yld.assign hS rfl) (by decide) ?_; clear hS; intro aa hS
      refine sA hS hR (Yld.assign hS rfl) (by decide) ?_; clear hS; intro aa hS
      refine wpList_nil ?_
      refine hK399 _ _ ?_
      refine wp_ret ?_
      repeat (first | with_reducible refine thenR ?_ | with_reducible refine blockR ?_ | with_reducible refine scopeR ?_)
      refine retN (fn := Try.f38) (e := .ret) (.inl rfl) Try.results38 hS hR ⟨_, .cons (.tmp rfl) (.cons (.tmp rfl) (.nil)), rfl, ?_⟩
      try dsimp only [lay, List.set] at hR
      refine ⟨by rw [see_V hi], ?_⟩
      rw [see_T hi, see_N hi]
      exact Sep.rluI (TR := 65) (TI := 3) (b2 := b2) (hR.sub (by repeat (first | with_reducible exact Ex.refl | (with_reducible apply Ex.take; · repeat (first | with_reducible exact Pk.here | with_reducible apply Pk.there)) | with_reducible apply Ex.drop)))
set_option maxRecDepth 20000 in
theorem UOut_ok {S b2 : Nat} {ord : List Nat} {T tm : Nat → Int} {now : Int} {l : List HP} {w : World} (h1 : 1 ≤ S) (h2 : S ≤ 8192) {i : Int} (hLS : LS S ord T now tm) (hR : Sep (rluA 65 3 b2 S tm now :: l) w) : CallR Try.prog 39 [.pointer (some ⟨b2, 0, none⟩), .int .i64 i] w (fun v w' => v = .int .i64 (loutE S ord i) ∧ ∃ tm2, LS S (loutO S ord i) T now tm2 ∧ Sep (rluA 65 3 b2 S tm2 now :: l) w') := by
  refine enter Try.func39 rfl Try.ntmps39 (Nat.le_of_ble_eq_true rfl) ?_; intro aa hS
  obtain ⟨r2, c2, hb2, hR⟩ := hR.rluE h1
  refine wp_seq_k ?_; intro K400 hK400
  refine wp_region_lit ?_
  refine sA hS hR (Yld.assign hS rfl) (by decide) ?_; clear hS; intro aa hS
  refine wpList_nil ?_
  refine hK400 _ _ ?_
  refine wp_seq_k ?_; intro K401 hK401
  refine wp_seq_k ?_; intro K402 hK402
  refine wp_region_lit ?_
  refine sA hS hR (Yld.move hS rfl) (by decide) ?_; clear hS; intro aa hS
  refine sA hS hR (Yld.lss hS rfl rfl) (by decide) ?_; clear hS; intro aa hS
  refine sA hS hR (Yld.move hS rfl) (by decide) ?_; clear hS; intro aa hS
  refine hS.splitB (t := 7) rfl ?_ ?_ <;> clear hS
  · intro hg hS
    refine sSkip hS rfl rfl rfl (by decide) ?_; clear hS; intro aa hS
    refine sSkip hS rfl rfl rfl (by decide) ?_; clear hS; intro aa hS
    refine sSkip hS rfl rfl rfl (by decide) ?_; clear hS; intro aa hS
    refine sSkip hS rfl rfl rfl (by decide) ?_; clear hS; intro aa hS
    refine sSkip hS rfl rfl rfl (by decide) ?_; clear hS; intro aa hS
    refine sSkip hS rfl rfl rfl (by decide) ?_; clear hS; intro aa hS
    refine sSkip hS rfl rfl rfl (by decide) ?_; clear hS; intro aa hS
    refine sA hS hR (Yld.pickT hS rfl rfl) (by decide) ?_; clear hS; intro aa hS
    refine wpList_nil ?_
    refine hK402 _ _ ?_
    refine condT hS rfl ?_
    refine wp_seq_k ?_; intro K403 hK403
    refine wp_region_lit ?_
    refine sA hS hR (Yld.assign hS rfl) (by decide) ?_; clear hS; intro aa hS
    refine wpList_nil ?_
    refine hK403 _ _ ?_
    refine wp_ret ?_
    repeat (first | with_reducible refine thenR ?_ | with_reducible refine blockR ?_ | with_reducible refine scopeR ?_)
    refine ret1 (fn := Try.f39) (e := .ret) (.inl rfl) Try.results39 hS hR ⟨_, (.tmp rfl), ?_⟩
    have hbad : ¬ (0 ≤ i ∧ i < S) := by omega
    refine ⟨by rw [lout_outE hbad], tm, by rw [lout_outO hbad]; exact hLS, ?_⟩
    exact Sep.rluI (TR := 65) (TI := 3) (b2 := b2) (hR.sub (by repeat (first | with_reducible exact Ex.refl | (with_reducible apply Ex.take; · repeat (first | with_reducible exact Pk.here | with_reducible apply Pk.there)) | with_reducible apply Ex.drop)))
  · intro hg hS
    refine sAg hS hR rfl rfl (Yld.move hS rfl) (by decide) ?_; clear hS; intro aa hS
    refine sAg hS hR rfl rfl (Yld.move hS rfl) (by decide) ?_; clear hS; intro aa hS
    refine sAg hS hR rfl rfl (Yld.nilCheck hS rfl) (by decide) ?_; clear hS; intro aa hS
    refine sAg hS hR rfl rfl (Yld.fieldAddr hS rfl 0 Try.underlying65 rfl rfl info27 (by decide)) (by decide) ?_; clear hS; intro aa hS
    refine sAg hS hR rfl rfl (Yld.load1 hS rfl Try.underlying27 rfl (by first | exact Rd.blk (by repeat (first | with_reducible exact Pk.here | with_reducible apply Pk.there)) (by rfl) | exact Rd.rec (by repeat (first | with_reducible exact Pk.here | with_reducible apply Pk.there)) (by intro _; rfl) (by first | omega | (rw [tab_len]; omega)) rfl | exact Rd.rec0 (by repeat (first | with_reducible exact Pk.here | with_reducible apply Pk.there)) (by intro _; rfl) (by first | omega | (rw [tab_len]; omega)) rfl | exact Rd.flatJ (by repeat (first | with_reducible exact Pk.here | with_reducible apply Pk.there)) (by intro _; rfl) (by first | omega | (rw [tab_len]; omega)) rfl | exact Rd.flat0 (by repeat (first | with_reducible exact Pk.here | with_reducible apply Pk.there)) (by intro _; rfl) (by first | omega | (rw [tab_len]; omega)) rfl)) (by decide) ?_; clear hS; intro aa hS
    refine sAg hS hR rfl rfl (Yld.len hS rfl Try.underlying27) (by decide) ?_; clear hS; intro aa hS
    refine sAg hS hR rfl rfl (Yld.geq hS rfl rfl) (by decide) ?_; clear hS; intro aa hS
    refine sA hS hR (Yld.pickF hS rfl rfl) (by decide) ?_; clear hS; intro aa hS
    refine wpList_nil ?_
    refine hK402 _ _ ?_
    refine hS.splitB (t := 15) rfl ?_ ?_ <;> clear hS
    · intro hg hS
      refine condT hS rfl ?_
      refine wp_seq_k ?_; intro K404 hK404
      refine wp_region_lit ?_
      refine sA hS hR (Yld.assign hS rfl) (by decide) ?_; clear hS; intro aa hS
      refine wpList_nil ?_
      refine hK404 _ _ ?_
      refine wp_ret ?_
      repeat (first | with_reducible refine thenR ?_ | with_reducible refine blockR ?_ | with_reducible refine scopeR ?_)
      refine ret1 (fn := Try.f39) (e := .ret) (.inl rfl) Try.results39 hS hR ⟨_, (.tmp rfl), ?_⟩
      have hbad : ¬ (0 ≤ i ∧ i < S) := by omega
      refine ⟨by rw [lout_outE hbad], tm, by rw [lout_outO hbad]; exact hLS, ?_⟩
      exact Sep.rluI (TR := 65) (TI := 3) (b2 := b2) (hR.sub (by repeat (first | with_reducible exact Ex.refl | (with_reducible apply Ex.take; · repeat (first | with_reducible exact Pk.here | with_reducible apply Pk.there)) | with_reducible apply Ex.drop)))
    · intro hg hS
      obtain ⟨i, rfl⟩ : ∃ z9 : Nat, i = z9 := ⟨(i).toNat, by omega⟩
      have hi : i < S := by omega
      refine condF hS rfl ?_
      refine wp_skip ?_
      refine hK401 _ _ ?_
      refine wp_seq_k ?_; intro K405 hK405
      refine wp_seq_k ?_; intro K406 hK406
      refine wp_region_lit ?_
      refine sA hS hR (Yld.move hS rfl) (by decide) ?_; clear hS; intro aa hS
      refine sA hS hR (Yld.nilCheck hS rfl) (by decide) ?_; clear hS; intro aa hS
      refine sA hS hR (Yld.fieldAddr hS rfl 0 Try.underlying65 rfl rfl info27 (by decide)) (by decide) ?_; clear hS; intro aa hS
      refine sA hS hR (Yld.load1 hS rfl Try.underlying27 rfl (by first | exact Rd.blk (by repeat (first | with_reducible exact Pk.here | with_reducible apply Pk.there)) (by rfl) | exact Rd.rec (by repeat (first | with_reducible exact Pk.here | with_reducible apply Pk.there)) (by intro _; rfl) (by first | omega | (rw [tab_len]; omega)) rfl | exact Rd.rec0 (by repeat (first | with_reducible exact Pk.here | with_reducible apply Pk.there)) (by intro _; rfl) (by first | omega | (rw [tab_len]; omega)) rfl | exact Rd.flatJ (by repeat (first | with_reducible exact Pk.here | with_reducible apply Pk.there)) (by intro _; rfl) (by first | omega | (rw [tab_len]; omega)) rfl | exact Rd.flat0 (by repeat (first | with_reducible exact Pk.here | with_reducible apply Pk.there)) (by intro _; rfl) (by first | omega | (rw [tab_len]; omega)) rfl)) (by decide) ?_; clear hS; intro aa hS
      refine sA hS hR (Yld.move hS rfl) (by decide) ?_; clear hS; intro aa hS
      refine sA hS hR ((by first | exact Yld.indexH (sz := 1) (i) hS rfl rfl Try.underlying27 info3 (by assumption) rfl (by first | rfl | omega) (by omega) | exact Yld.indexL (sz := 1) (i) hS rfl rfl Try.underlying27 info3 (by repeat (first | with_reducible exact Pk.here | with_reducible apply Pk.there)) rfl (by first | rfl | omega) (by omega) | exact Yld.indexB (sz := 1) (i) hS rfl rfl Try.underlying27 info3 rfl (by first | rfl | omega) (by omega))) (by decide) ?_; clear hS; intro aa hS
      refine sA hS hR (Yld.load1 hS rfl Try.underlying3 rfl (Rd.rec0 (k := i) (xs := tab S tm) (v := .int .i64 (tm i)) (by repeat (first | with_reducible exact Pk.here | with_reducible apply Pk.there)) (by intro _; rfl) (by rw [tab_len]; omega) (by rw [tab_get]; rfl))) (by decide) ?_; clear hS; intro aa hS
      refine sA hS hR (Yld.eql hS rfl rfl) (by decide) ?_; clear hS; intro aa hS
      refine wpList_nil ?_
      refine hK406 _ _ ?_
      refine hS.splitB (t := 23) rfl ?_ ?_ <;> clear hS
      · intro hg hS
        have hm : i ∉ ord := fun h => by have := (hLS.pos hi).1 h; omega
        refine condT hS rfl ?_
        refine wp_seq_k ?_; intro K407 hK407
        refine wp_region_lit ?_
        refine sA hS hR (Yld.assign hS rfl) (by decide) ?_; clear hS; intro aa hS
        refine wpList_nil ?_
        refine hK407 _ _ ?_
        refine wp_ret ?_
        repeat (first | with_reducible refine thenR ?_ | with_reducible refine blockR ?_ | with_reducible refine scopeR ?_)
        refine ret1 (fn := Try.f39) (e := .ret) (.inl rfl) Try.results39 hS hR ⟨_, (.tmp rfl), ?_⟩
        refine ⟨by rw [lout_E hi, if_neg hm], tm, by rw [lout_O hi, List.erase_of_not_mem hm]; exact hLS, ?_⟩
        exact Sep.rluI (TR := 65) (TI := 3) (b2 := b2) (hR.sub (by repeat (first | with_reducible exact Ex.refl | (with_reducible apply Ex.take; · repeat (first | with_reducible exact Pk.here | with_reducible apply Pk.there)) | with_reducible apply Ex.drop)))
      · intro hg hS
        have hm : i ∈ ord := by
          by_cases h : i ∈ ord
          · exact h
          · exact absurd (hLS.tm0 i hi h) (by omega)
        refine condF hS rfl ?_
        refine wp_skip ?_
        refine hK405 _ _ ?_
        refine wp_seq_k ?_; intro K408 hK408
        refine wp_region_lit ?_
        refine sA hS hR (Yld.move hS rfl) (by decide) ?_; clear hS; intro aa hS
        refine sA hS hR (Yld.nilCheck hS rfl) (by decide) ?_; clear hS; intro aa hS
        refine sA hS hR (Yld.fieldAddr hS rfl 0 Try.underlying65 rfl rfl info27 (by decide)) (by decide) ?_; clear hS; intro aa hS
        refine sA hS hR (Yld.load1 hS rfl Try.underlying27 rfl (by first | exact Rd.blk (by repeat (first | with_reducible exact Pk.here | with_reducible apply Pk.there)) (by rfl) | exact Rd.rec (by repeat (first | with_reducible exact Pk.here | with_reducible apply Pk.there)) (by intro _; rfl) (by first | omega | (rw [tab_len]; omega)) rfl | exact Rd.rec0 (by repeat (first | with_reducible exact Pk.here | with_reducible apply Pk.there)) (by intro _; rfl) (by first | omega | (rw [tab_len]; omega)) rfl | exact Rd.flatJ (by repeat (first | with_reducible exact Pk.here | with_reducible apply Pk.there)) (by intro _; rfl) (by first | omega | (rw [tab_len]; omega)) rfl | exact Rd.flat0 (by repeat (first | with_reducible exact Pk.here | with_reducible apply Pk.there)) (by intro _; rfl) (by first | omega | (rw [tab_len]; omega)) rfl)) (by decide) ?_; clear hS; intro aa hS
        refine sA hS hR (Yld.move hS rfl) (by decide) ?_; clear hS; intro aa hS
        refine sA hS hR ((by first | exact Yld.indexH (sz := 1) (i) hS rfl rfl Try.underlying27 info3 (by assumption) rfl (by first | rfl | omega) (by omega) | exact Yld.indexL (sz := 1) (i) hS rfl rfl Try.underlying27 info3 (by repeat (first | with_reducible exact Pk.here | with_reducible apply Pk.there)) rfl (by first | rfl | omega) (by omega) | exact Yld.indexB (sz := 1) (i) hS rfl rfl Try.underlying27 info3 rfl (by first | rfl | omega) (by omega))) (by decide) ?_; clear hS; intro aa hS
        refine sB (BstoreR0 ((0 : Int)) hS hR rfl rfl (by rfl) info3 (by rfl) (by repeat (first | with_reducible exact Pk.here | with_reducible apply Pk.there)) (by rfl) (by intro _; rfl) (by first | omega | (rw [tab_len]; omega)) (by first | exact Nat.le_of_ble_eq_true rfl | (simp only [List.length_singleton]; omega)) (Nat.le_of_ble_eq_true rfl) (by rfl) ?_); clear hR; intro ww hR
        rw [tab_set] at hR
        refine wpList_nil ?_
        refine hK408 _ _ ?_
        refine wp_seq_k ?_; intro K409 hK409
        refine wp_region_lit ?_
        refine sA hS hR (Yld.assign hS rfl) (by decide) ?_; clear hS; intro aa hS
        refine wpList_nil ?_
        refine hK409 _ _ ?_
        refine wp_ret ?_
        repeat (first | with_reducible refine thenR ?_ | with_reducible refine blockR ?_ | with_reducible refine scopeR ?_)
        refine ret1 (fn := Try.f39) (e := .ret) (.inl rfl) Try.results39 hS hR ⟨_, (.tmp rfl), ?_⟩
        refine ⟨by rw [lout_E hi, if_pos hm], _, by rw [lout_O hi]; exact hLS.out hi, ?_⟩
        exact Sep.rluI (TR := 65) (TI := 3) (b2 := b2) (hR.sub (by repeat (first | with_reducible exact Ex.refl | (with_reducible apply Ex.take; · repeat (first | with_reducible exact Pk.here | with_reducible apply Pk.there)) | with_reducible apply Ex.drop)))
set_option maxRecDepth 20000 in
theorem UWhen_ok {S b2 : Nat} {ord : List Nat} {T tm : Nat → Int} {now : Int} {l : List HP} {w : World} (h1 : 1 ≤ S) (h2 : S ≤ 8192) {i : Int} (hLS : LS S ord T now tm) (hR : Sep (rluA 65 3 b2 S tm now :: l) w) : CallR Try.prog 40 [.pointer (some ⟨b2, 0, none⟩), .int .i64 i] w (fun v w' => v = whenV S ord T i ∧ Sep (rluA 65 3 b2 S tm now :: l) w') := by
  refine enter Try.func40 rfl Try.ntmps40 (Nat.le_of_ble_eq_true rfl) ?_; intro aa hS
  obtain ⟨r2, c2, hb2, hR⟩ := hR.rluE h1
  refine wp_seq_k ?_; intro K410 hK410
  refine wp_region_lit ?_
  refine sA hS hR (Yld.assign hS rfl) (by decide) ?_; clear hS; intro aa hS
  refine sA hS hR (Yld.assign hS rfl) (by decide) ?_; clear hS; intro aa hS
  refine wpList_nil ?_
  refine hK410 _ _ ?_
  refine wp_seq_k ?_; intro K411 hK411
  refine wp_seq_k ?_; intro K412 hK412
  refine wp_region_lit ?_
  refine sA hS hR (Yld.move hS rfl) (by decide) ?_; clear hS; intro aa hS
  refine sA hS hR (Yld.lss hS rfl rfl) (by decide) ?_; clear hS; intro aa hS
  refine sA hS hR (Yld.move hS rfl) (by decide) ?_; clear hS; intro aa hS
  refine hS.splitB (t := 8) rfl ?_ ?_ <;> clear hS
  · intro hg hS
    refine sSkip hS rfl rfl rfl (by decide) ?_; clear hS; intro aa hS
    refine sSkip hS rfl rfl rfl (by decide) ?_; clear hS; intro aa hS
    refine sSkip hS rfl rfl rfl (by decide) ?_; clear hS; intro aa hS
    refine sSkip hS rfl rfl rfl (by decide) ?_; clear hS; intro aa hS
    refine sSkip hS rfl rfl rfl (by decide) ?_; clear hS; intro aa hS
    refine sSkip hS rfl rfl rfl (by decide) ?_; clear hS; intro aa hS
    refine sSkip hS rfl rfl rfl (by decide) ?_; clear hS; intro aa hS
    refine sA hS hR (Yld.pickT hS rfl rfl) (by decide) ?_; clear hS; intro aa hS
    refine sA hS hR (Yld.move hS rfl) (by decide) ?_; clear hS; intro aa hS
    refine sSkip hS rfl rfl rfl (by decide) ?_; clear hS; intro aa hS
    refine sSkip hS rfl rfl rfl (by decide) ?_; clear hS; intro aa hS
    refine sSkip hS rfl rfl rfl (by decide) ?_; clear hS; intro aa hS
    refine sSkip hS rfl rfl rfl (by decide) ?_; clear hS; intro aa hS
    refine sSkip hS rfl rfl rfl (by decide) ?_; clear hS; intro aa hS
    refine sSkip hS rfl rfl rfl (by decide) ?_; clear hS; intro aa hS
    refine sSkip hS rfl rfl rfl (by decide) ?_; clear hS; intro aa hS
    refine sSkip hS rfl rfl rfl (by decide) ?_; clear hS; intro aa hS
    refine sA hS hR (Yld.pickT hS rfl rfl) (by decide) ?_; clear hS; intro aa hS
    refine wpList_nil ?_
    refine hK412 _ _ ?_
    refine condT hS rfl ?_
    refine wp_seq_k ?_; intro K413 hK413
    refine wp_region_lit ?_
    refine sA hS hR (Yld.assign hS rfl) (by decide) ?_; clear hS; intro aa hS
    refine sA hS hR (Yld.assign hS rfl) (by decide) ?_; clear hS; intro aa hS
    refine wpList_nil ?_
    refine hK413 _ _ ?_
    refine wp_ret ?_
    repeat (first | with_reducible refine thenR ?_ | with_reducible refine blockR ?_ | with_reducible refine scopeR ?_)
    refine retN (fn := Try.f40) (e := .ret) (.inl rfl) Try.results40 hS hR ⟨_, .cons (.tmp rfl) (.cons (.tmp rfl) (.nil)), rfl, ?_⟩
    refine ⟨by rw [when_out (by omega)], ?_⟩
    exact Sep.rluI (TR := 65) (TI := 3) (b2 := b2) (hR.sub (by repeat (first | with_reducible exact Ex.refl | (with_reducible apply Ex.take; · repeat (first | with_reducible exact Pk.here | with_reducible apply Pk.there)) | with_reducible apply Ex.drop)))
  · intro hg hS
    refine sAg hS hR rfl rfl (Yld.move hS rfl) (by decide) ?_; clear hS; intro aa hS
    refine sAg hS hR rfl rfl (Yld.move hS rfl) (by decide) ?_; clear hS; intro aa hS
    refine sAg hS hR rfl rfl (Yld.nilCheck hS rfl) (by decide) ?_; clear hS; intro aa hS
    refine sAg hS hR rfl rfl (Yld.fieldAddr hS rfl 0 Try.underlying65 rfl rfl info27 (by decide)) (by decide) ?_; clear hS; intro aa hS
    refine sAg hS hR rfl rfl (Yld.load1 hS rfl Try.underlying27 rfl (by first | exact Rd.blk (by repeat (first | with_reducible exact Pk.here | with_reducible apply Pk.there)) (by rfl) | exact Rd.rec (by repeat (first | with_reducible exact Pk.here | with_reducible apply Pk.there)) (by intro _; rfl) (by first | omega | (rw [tab_len]; omega)) rfl | exact Rd.rec0 (by repeat (first | with_reducible exact Pk.here | with_reducible apply Pk.there)) (by intro _; rfl) (by first | omega | (rw [tab_len]; omega)) rfl | exact Rd.flatJ (by repeat (first | with_reducible exact Pk.here | with_reducible apply Pk.there)) (by intro _; rfl) (by first | omega | (rw [tab_len]; omega)) rfl | exact Rd.flat0 (by repeat (first | with_reducible exact Pk.here | with_reducible apply Pk.there)) (by intro _; rfl) (by first | omega | (rw [tab_len]; omega)) rfl)) (by decide) ?_; clear hS; intro aa hS
    refine sAg hS hR rfl rfl (Yld.len hS rfl Try.underlying27) (by decide) ?_; clear hS; intro aa hS
    refine sAg hS hR rfl rfl (Yld.geq hS rfl rfl) (by decide) ?_; clear hS; intro aa hS
    refine sA hS hR (Yld.pickF hS rfl rfl) (by decide) ?_; clear hS; intro aa hS
    refine sA hS hR (Yld.move hS rfl) (by decide) ?_; clear hS; intro aa hS
    refine hS.splitB (t := 17) rfl ?_ ?_ <;> clear hS
    · intro hg hS
      refine sSkip hS rfl rfl rfl (by decide) ?_; clear hS; intro aa hS
      refine sSkip hS rfl rfl rfl (by decide) ?_; clear hS; intro aa hS
      refine sSkip hS rfl rfl rfl (by decide) ?_; clear hS; intro aa hS
      refine sSkip hS rfl rfl rfl (by decide) ?_; clear hS; intro aa hS
      refine sSkip hS rfl rfl rfl (by decide) ?_; clear hS; intro aa hS
      refine sSkip hS rfl rfl rfl (by decide) ?_; clear hS; intro aa hS
      refine sSkip hS rfl rfl rfl (by decide) ?_; clear hS; intro aa hS
      refine sSkip hS rfl rfl rfl (by decide) ?_; clear hS; intro aa hS
      refine sA hS hR (Yld.pickT hS rfl rfl) (by decide) ?_; clear hS; intro aa hS
      refine wpList_nil ?_
      refine hK412 _ _ ?_
      refine condT hS rfl ?_
      refine wp_seq_k ?_; intro K414 hK414
      refine wp_region_lit ?_
      refine sA hS hR (Yld.assign hS rfl) (by decide) ?_; clear hS; intro aa hS
      refine sA hS hR (Yld.assign hS rfl) (by decide) ?_; clear hS; intro aa hS
      refine wpList_nil ?_
      refine hK414 _ _ ?_
      refine wp_ret ?_
      repeat (first | with_reducible refine thenR ?_ | with_reducible refine blockR ?_ | with_reducible refine scopeR ?_)
      refine retN (fn := Try.f40) (e := .ret) (.inl rfl) Try.results40 hS hR ⟨_, .cons (.tmp rfl) (.cons (.tmp rfl) (.nil)), rfl, ?_⟩
      refine ⟨by rw [when_out (by omega)], ?_⟩
      exact Sep.rluI (TR := 65) (TI := 3) (b2 := b2) (hR.sub (by repeat (first | with_reducible exact Ex.refl | (with_reducible apply Ex.take; · repeat (first | with_reducible exact Pk.here | with_reducible apply Pk.there)) | with_reducible apply Ex.drop)))
    · intro hg hS
      obtain ⟨i, rfl⟩ : ∃ z9 : Nat, i = z9 := ⟨(i).toNat, by omega⟩
      have hi : i < S := by omega
      refine sAg hS hR rfl rfl (Yld.move hS rfl) (by decide) ?_; clear hS; intro aa hS
      refine sAg hS hR rfl rfl (Yld.nilCheck hS rfl) (by decide) ?_; clear hS; intro aa hS
      refine sAg hS hR rfl rfl (Yld.fieldAddr hS rfl 0 Try.underlying65 rfl rfl info27 (by decide)) (by decide) ?_; clear hS; intro aa hS
      refine sAg hS hR rfl rfl (Yld.load1 hS rfl Try.underlying27 rfl (by first | exact Rd.blk (by repeat (first | with_reducible exact Pk.here | with_reducible apply Pk.there)) (by rfl) | exact Rd.rec (by repeat (first | with_reducible exact Pk.here | with_reducible apply Pk.there)) (by intro _; rfl) (by first | omega | (rw [tab_len]; omega)) rfl | exact Rd.rec0 (by repeat (first | with_reducible exact Pk.here | with_reducible apply Pk.there)) (by intro _; rfl) (by first | omega | (rw [tab_len]; omega)) rfl | exact Rd.flatJ (by repeat (first | with_reducible exact Pk.here | with_reducible apply Pk.there)) (by intro _; rfl) (by first | omega | (rw [tab_len]; omega)) rfl | exact Rd.flat0 (by repeat (first | with_reducible exact Pk.here | with_reducible apply Pk.there)) (by intro _; rfl) (by first | omega | (rw [tab_len]; omega)) rfl)) (by decide) ?_; clear hS; intro aa hS
      refine sAg hS hR rfl rfl (Yld.move hS rfl) (by decide) ?_; clear hS; intro aa hS
      refine sAg hS hR rfl rfl ((by first | exact Yld.indexH (sz := 1) (i) hS rfl rfl Try.underlying27 info3 (by assumption) rfl (by first | rfl | omega) (by omega) | exact Yld.indexL (sz := 1) (i) hS rfl rfl Try.underlying27 info3 (by repeat (first | with_reducible exact Pk.here | with_reducible apply Pk.there)) rfl (by first | rfl | omega) (by omega) | exact Yld.indexB (sz := 1) (i) hS rfl rfl Try.underlying27 info3 rfl (by first | rfl | omega) (by omega))) (by decide) ?_; clear hS; intro aa hS
      refine sAg hS hR rfl rfl (Yld.load1 hS rfl Try.underlying3 rfl (Rd.rec0 (k := i) (xs := tab S tm) (v := .int .i64 (tm i)) (by repeat (first | with_reducible exact Pk.here | with_reducible apply Pk.there)) (by intro _; rfl) (by rw [tab_len]; omega) (by rw [tab_get]; rfl))) (by decide) ?_; clear hS; intro aa hS
      refine sAg hS hR rfl rfl (Yld.eql hS rfl rfl) (by decide) ?_; clear hS; intro aa hS
      refine sA hS hR (Yld.pickF hS rfl rfl) (by decide) ?_; clear hS; intro aa hS
      refine wpList_nil ?_
      refine hK412 _ _ ?_
      refine hS.splitB (t := 26) rfl ?_ ?_ <;> clear hS
      · intro hg hS
        refine condT hS rfl ?_
        refine wp_seq_k ?_; intro K415 hK415
        refine wp_region_lit ?_
        refine sA hS hR (Yld.assign hS rfl) (by decide) ?_; clear hS; intro aa hS
        refine sA hS hR (Yld.assign hS rfl) (by decide) ?_; clear hS; intro aa hS
        refine wpList_nil ?_
        refine hK415 _ _ ?_
        refine wp_ret ?_
        repeat (first | with_reducible refine thenR ?_ | with_reducible refine blockR ?_ | with_reducible refine scopeR ?_)
        refine retN (fn := Try.f40) (e := .ret) (.inl rfl) Try.results40 hS hR ⟨_, .cons (.tmp rfl) (.cons (.tmp rfl) (.nil)), rfl, ?_⟩
        refine ⟨?_, Sep.rluI (TR := 65) (TI := 3) (b2 := b2) (hR.sub (by repeat (first | with_reducible exact Ex.refl | (with_reducible apply Ex.take; · repeat (first | with_reducible exact Pk.here | with_reducible apply Pk.there)) | with_reducible apply Ex.drop)))⟩
        rw [when_no fun h => by have := (hLS.pos hi).1 h; omega]
      · intro hg hS
        have hm : i ∈ ord := by
          by_cases h : i ∈ ord
          · exact h
          · exact absurd (hLS.tm0 i hi h) (by omega)
        have htm := hLS.tm1 i hm
        refine condF hS rfl ?_
        refine wp_skip ?_
        refine hK411 _ _ ?_
        refine wp_seq_k ?_; intro K416 hK416
        refine wp_region_lit ?_
        refine sA hS hR (Yld.move hS rfl) (by decide) ?_; clear hS; intro aa hS
        refine sA hS hR (Yld.nilCheck hS rfl) (by decide) ?_; clear hS; intro aa hS
        refine sA hS hR (Yld.fieldAddr hS rfl 0 Try.underlying65 rfl rfl info27 (by decide)) (by decide) ?_; clear hS; intro aa hS
        refine sA hS hR (Yld.load1 hS rfl Try.underlying27 rfl (by first | exact Rd.blk (by repeat (first | with_reducible exact Pk.here | with_reducible apply Pk.there)) (by rfl) | exact Rd.rec (by repeat (first | with_reducible exact Pk.here | with_reducible apply Pk.there)) (by intro _; rfl) (by first | omega | (rw [tab_len]; omega)) rfl | exact Rd.rec0 (by repeat (first | with_reducible exact Pk.here | with_reducible apply Pk.there)) (by intro _; rfl) (by first | omega | (rw [tab_len]; omega)) rfl | exact Rd.flatJ (by repeat (first | with_reducible exact Pk.here | with_reducible apply Pk.there)) (by intro _; rfl) (by first | omega | (rw [tab_len]; omega)) rfl | exact Rd.flat0 (by repeat (first | with_reducible exact Pk.here | with_reducible apply Pk.there)) (by intro _; rfl) (by first | omega | (rw [tab_len]; omega)) rfl)) (by decide) ?_; clear hS; intro aa hS
        refine sA hS hR (Yld.move hS rfl) (by decide) ?_; clear hS; intro aa hS
        refine sA hS hR ((by first | exact Yld.indexH (sz := 1) (i) hS rfl rfl Try.underlying27 info3 (by assumption) rfl (by first | rfl | omega) (by omega) | exact Yld.indexL (sz := 1) (i) hS rfl rfl Try.underlying27 info3 (by repeat (first | with_reducible exact Pk.here | with_reducible apply Pk.there)) rfl (by first | rfl | omega) (by omega) | exact Yld.indexB (sz := 1) (i) hS rfl rfl Try.underlying27 info3 rfl (by first | rfl | omega) (by omega))) (by decide) ?_; clear hS; intro aa hS
        refine sA hS hR (Yld.load1 hS rfl Try.underlying3 rfl (Rd.rec0 (k := i) (xs := tab S tm) (v := .int .i64 (tm i)) (by repeat (first | with_reducible exact Pk.here | with_reducible apply Pk.there)) (by intro _; rfl) (by rw [tab_len]; omega) (by rw [tab_get]; rfl))) (by decide) ?_; clear hS; intro aa hS
        rw [htm] at hS
        refine sA hS hR (Yld.assign hS rfl) (by decide) ?_; clear hS; intro aa hS
        refine sA hS hR (Yld.assign hS rfl) (by decide) ?_; clear hS; intro aa hS
        refine wpList_nil ?_
        refine hK416 _ _ ?_
        refine wp_ret ?_
        repeat (first | with_reducible refine thenR ?_ | with_reducible refine blockR ?_ | with_reducible refine scopeR ?_)
        refine retN (fn := Try.f40) (e := .ret) (.inl rfl) Try.results40 hS hR ⟨_, .cons (.tmp rfl) (.cons (.tmp rfl) (.nil)), rfl, ?_⟩
        refine ⟨by rw [when_in hi hm], ?_⟩
        exact Sep.rluI (TR := 65) (TI := 3) (b2 := b2) (hR.sub (by repeat (first | with_reducible exact Ex.refl | (with_reducible apply Ex.take; · repeat (first | with_reducible exact Pk.here | with_reducible apply Pk.there)) | with_reducible apply Ex.drop)))
set_option maxHeartbeats 2000000 in
set_option maxRecDepth 20000 in
theorem USince0_ok {S b2 : Nat} {ord : List Nat} {T tm : Nat → Int} {now : Int} {l : List HP} {w : World} (h1 : 1 ≤ S) (h2 : S ≤ 8192) {t t0 : Int} (hLS : LS S ord T now tm) (ht0 : t0 = max t 0) (hR : Sep (rluA 65 3 b2 S tm now :: l) w) : CallR Try.prog 41 [.pointer (some ⟨b2, 0, none⟩), .int .i64 t] w (fun v w' => ∃ r c, v = .slice r (cst (ord.filter fun a => decide (T a > t0))).length c ∧ Sep (sls r (cst (ord.filter fun a => decide (T a > t0))).length c 3 1 ((cst (ord.filter fun a => decide (T a > t0))).flatMap e1) :: rluA 65 3 b2 S tm now :: l) w') := by
  refine enter Try.func41 rfl Try.ntmps41 (Nat.le_of_ble_eq_true rfl) ?_; intro aa hS
  obtain ⟨r2, c2, hb2, hR⟩ := hR.rluE h1
  have h0 : 0 ≤ t0 := by omega
  have hFl := List.length_filter_le (fun a => decide (T a > t0)) ord
  have hol : ord.length ≤ S := nodup_len hLS.nd hLS.lt
  obtain ⟨F, hF⟩ : ∃ F, (ord.filter fun a => decide (T a > t0)) = F := ⟨_, rfl⟩
  rw [hF] at hFl
  refine wp_seq_k ?_; intro K417 hK417
  refine wp_region_lit ?_
  refine sA hS hR (Yld.assign hS rfl) (by decide) ?_; clear hS; intro aa hS
  refine wpList_nil ?_
  refine hK417 _ _ ?_
  refine wp_seq_k ?_; intro K418 hK418
  refine wp_region_lit ?_
  refine sA hS hR (Yld.assign hS rfl) (by decide) ?_; clear hS; intro aa hS
  refine wpList_nil ?_
  refine hK418 _ _ ?_
  refine wp_seq_k ?_; intro K419 hK419
  refine wp_region_lit ?_
  refine sA hS hR (Yld.assign hS rfl) (by decide) ?_; clear hS; intro aa hS
  refine wpList_nil ?_
  refine hK419 _ _ ?_
  refine wp_seq_k ?_; intro K420 hK420
  refine wp_seq_k ?_; intro K421 hK421
  refine wp_region_lit ?_
  refine sA hS hR (Yld.move hS rfl) (by decide) ?_; clear hS; intro aa hS
  refine sA hS hR (Yld.gtr hS rfl rfl) (by decide) ?_; clear hS; intro aa hS
  refine wpList_nil ?_
  refine hK421 _ _ ?_
  refine hS.splitB (t := 10) rfl ?_ ?_ <;> clear hS
  · intro hg hS
    refine condT hS rfl ?_
    refine wp_region_lit ?_
    refine sA hS hR (Yld.move hS rfl) (by decide) ?_; clear hS; intro aa hS
    replace hS := hS.say (t := 11) (.int .i64 t0) rfl (by rw [show t0 = t from by omega])
    refine sA hS hR (Yld.assign hS rfl) (by decide) ?_; clear hS; intro aa hS
    refine wpList_nil ?_
    refine hK420 _ _ ?_
    refine wp_block ?_
    replace hR := hR.slsNil (T := 3) (sz := 1)
    replace hR := hR.pk (r := sls none 0 0 3 1 []) (by repeat (first | with_reducible exact Pk.here | with_reducible apply Pk.there))
    refine loopI (X := Nat × Option Addr × Nat) [(0, _)] (fun x => [(5, .slice x.2.1 (cst (F.take x.1)).length x.2.2), (6, .int .i64 (lastS F T t0 x.1))]) (fun x => [sls x.2.1 (cst (F.take x.1)).length x.2.2 3 1 ((cst (F.take x.1)).flatMap e1)]) _ (fun x => x.1 ≤ F.length) (fun x => F.length - x.1) (0, none, 0) (Nat.zero_le _) (hS.le (Le.cons rfl (Le.cons rfl (Le.nilapp (Le.cons rfl (Le.nil _)))))) hR ?_
    clear hS hR; rintro ⟨j, r0, c0⟩ aa ww hI hS hR; dsimp only [List.cons_append, List.nil_append] at hI hS hR
    have hJ : j ≤ F.length := hI
    refine wp_block ?_
    refine wp_seq_k ?_; intro K423 hK423
    refine wp_region_lit ?_
    refine sA hS hR (Yld.assign hS rfl) (by decide) ?_; clear hS; intro aa hS
    refine wpList_nil ?_
    refine hK423 _ _ ?_
    refine wp_seq_k ?_; intro K424 hK424
    refine wp_seq_k ?_; intro K425 hK425
    refine wp_region_lit ?_
    refine sA hS hR (Yld.assign hS rfl) (by decide) ?_; clear hS; intro aa hS
    refine wpList_nil ?_
    refine hK425 _ _ ?_
    refine wp_block ?_
    refine loopI (X := Nat × Int) [(0, _), (5, _), (6, _)] (fun x => [(7, .int .i64 x.2), (8, .int .i64 (x.1 : Int))]) (fun x => []) _ (fun x => x.1 ≤ S ∧ Bst tm (lastS F T t0 j) x.1 x.2) (fun x => S - x.1) (0, -1) ⟨Nat.zero_le _, Bst.start⟩ (hS.le (Le.cons rfl (Le.cons rfl (Le.nilapp (Le.cons rfl (Le.cons rfl (Le.cons rfl (Le.nil _)))))))) hR ?_
    clear hS hR; rintro ⟨i, z⟩ aa ww hI hS hR; dsimp only [List.cons_append, List.nil_append] at hI hS hR
    refine wp_seq_k ?_; intro K427 hK427
    refine wp_seq_k ?_; intro K428 hK428
    refine wp_region_lit ?_
    refine sA hS hR (Yld.move hS rfl) (by decide) ?_; clear hS; intro aa hS
    refine sA hS hR (Yld.move hS rfl) (by decide) ?_; clear hS; intro aa hS
    refine sA hS hR (Yld.nilCheck hS rfl) (by decide) ?_; clear hS; intro aa hS
    refine sA hS hR (Yld.fieldAddr hS rfl 0 Try.underlying65 rfl rfl info27 (by decide)) (by decide) ?_; clear hS; intro aa hS
    refine sA hS hR (Yld.load1 hS rfl Try.underlying27 rfl (by first | exact Rd.blk (by repeat (first | with_reducible exact Pk.here | with_reducible apply Pk.there)) (by rfl) | exact Rd.rec (by repeat (first | with_reducible exact Pk.here | with_reducible apply Pk.there)) (by intro _; rfl) (by first | omega | (rw [tab_len]; omega)) rfl | exact Rd.rec0 (by repeat (first | with_reducible exact Pk.here | with_reducible apply Pk.there)) (by intro _; rfl) (by first | omega | (rw [tab_len]; omega)) rfl | exact Rd.flatJ (by repeat (first | with_reducible exact Pk.here | with_reducible apply Pk.there)) (by intro _; rfl) (by first | omega | (rw [tab_len]; omega)) rfl | exact Rd.flat0 (by repeat (first | with_reducible exact Pk.here | with_reducible apply Pk.there)) (by intro _; rfl) (by first | omega | (rw [tab_len]; omega)) rfl)) (by decide) ?_; clear hS; intro aa hS
    refine sA hS hR (Yld.len hS rfl Try.underlying27) (by decide) ?_; clear hS; intro aa hS
    refine sA hS hR (Yld.lss hS rfl rfl) (by decide) ?_; clear hS; intro aa hS
    refine wpList_nil ?_
    refine hK428 _ _ ?_
    refine hS.splitB (t := 18) rfl ?_ ?_ <;> clear hS
    · intro hg hS
      refine condT hS rfl ?_
      refine wp_skip ?_
      refine hK427 _ _ ?_
      refine wp_seq_k ?_; intro K429 hK429
      refine wp_block ?_
      refine wp_seq_k ?_; intro K430 hK430
      refine drawn (by kernel_rfl) hR Ex.refl ?_; clear hR; intro ww hR hR0
      refine dA 0 rfl (by kernel_rfl) (by kernel_rfl) (by kernel_rfl) (fun _ _ _ h => h) hS hR0 (Yld.move hS rfl) (by decide) ?_; clear hS; intro aa hS
      refine dA 1 rfl (by kernel_rfl) (by kernel_rfl) (by kernel_rfl) (fun _ _ _ h => h) hS hR0 (Yld.nilCheck hS rfl) (by decide) ?_; clear hS; intro aa hS
      refine dA 2 rfl (by kernel_rfl) (by kernel_rfl) (by kernel_rfl) (fun _ _ _ h => h) hS hR0 (Yld.fieldAddr hS rfl 0 Try.underlying65 rfl rfl info27 (by decide)) (by decide) ?_; clear hS; intro aa hS
      refine dA 3 rfl (by kernel_rfl) (by kernel_rfl) (by kernel_rfl) (fun _ _ _ h => h) hS hR0 (Yld.load1 hS rfl Try.underlying27 rfl (by first | exact Rd.blk (by repeat (first | with_reducible exact Pk.here | with_reducible apply Pk.there)) (by rfl) | exact Rd.rec (by repeat (first | with_reducible exact Pk.here | with_reducible apply Pk.there)) (by intro _; rfl) (by first | omega | (rw [tab_len]; omega)) rfl | exact Rd.rec0 (by repeat (first | with_reducible exact Pk.here | with_reducible apply Pk.there)) (by intro _; rfl) (by first | omega | (rw [tab_len]; omega)) rfl | exact Rd.flatJ (by repeat (first | with_reducible exact Pk.here | with_reducible apply Pk.there)) (by intro _; rfl) (by first | omega | (rw [tab_len]; omega)) rfl | exact Rd.flat0 (by repeat (first | with_reducible exact Pk.here | with_reducible apply Pk.there)) (by intro _; rfl) (by first | omega | (rw [tab_len]; omega)) rfl)) (by decide) ?_; clear hS; intro aa hS
      refine dA 4 rfl (by kernel_rfl) (by kernel_rfl) (by kernel_rfl) (fun _ _ _ h => h) hS hR0 (Yld.move hS rfl) (by decide) ?_; clear hS; intro aa hS
      refine dA 5 rfl (by kernel_rfl) (by kernel_rfl) (by kernel_rfl) (fun _ _ _ h => h) hS hR0 ((by first | exact Yld.indexH (sz := 1) (i) hS rfl rfl Try.underlying27 info3 (by assumption) rfl (by first | rfl | omega) (by omega) | exact Yld.indexL (sz := 1) (i) hS rfl rfl Try.underlying27 info3 (by repeat (first | with_reducible exact Pk.here | with_reducible apply Pk.there)) rfl (by first | rfl | omega) (by omega) | exact Yld.indexB (sz := 1) (i) hS rfl rfl Try.underlying27 info3 rfl (by first | rfl | omega) (by omega))) (by decide) ?_; clear hS; intro aa hS
      refine dA 6 rfl (by kernel_rfl) (by kernel_rfl) (by kernel_rfl) (fun _ _ _ h => h) hS hR0 (Yld.load1 hS rfl Try.underlying3 rfl (Rd.rec0 (k := i) (xs := tab S tm) (v := .int .i64 (tm i)) (by repeat (first | with_reducible exact Pk.here | with_reducible apply Pk.there)) (by intro _; rfl) (by rw [tab_len]; omega) (by rw [tab_get]; rfl))) (by decide) ?_; clear hS; intro aa hS
      refine dA 7 rfl (by kernel_rfl) (by kernel_rfl) (by kernel_rfl) (fun _ _ _ h => h) hS hR0 (Yld.move hS rfl) (by decide) ?_; clear hS; intro aa hS
      refine dA 8 rfl (by kernel_rfl) (by kernel_rfl) (by kernel_rfl) (fun _ _ _ h => h) hS hR0 (Yld.gtr hS rfl rfl) (by decide) ?_; clear hS; intro aa hS
      refine dA 9 rfl (by kernel_rfl) (by kernel_rfl) (by kernel_rfl) (fun _ _ _ h => h) hS hR0 (Yld.move hS rfl) (by decide) ?_; clear hS; intro aa hS
      refine hS.splitB (t := 30) rfl ?_ ?_ <;> clear hS
      · intro hg hS
        have hti := hg
        refine dAg 10 rfl (by kernel_rfl) (by kernel_rfl) (by kernel_rfl) (fun _ _ _ h => h) hS rfl rfl hR0 (Yld.move hS rfl) (by decide) ?_; clear hS; intro aa hS
        refine dAg 11 rfl (by kernel_rfl) (by kernel_rfl) (by kernel_rfl) (fun _ _ _ h => h) hS rfl rfl hR0 (Yld.lss hS rfl rfl) (by decide) ?_; clear hS; intro aa hS
        refine dAg 12 rfl (by kernel_rfl) (by kernel_rfl) (by kernel_rfl) (fun _ _ _ h => h) hS rfl rfl hR0 (Yld.move hS rfl) (by decide) ?_; clear hS; intro aa hS
        refine hS.splitB (t := 33) rfl ?_ ?_ <;> clear hS
        · intro hg hS
          have hz0 := hg
          refine dSkip 13 rfl (by kernel_rfl) (by kernel_rfl) (by kernel_rfl) (fun _ _ _ h => h) hS rfl rfl rfl hR0 (by decide) ?_; clear hS; intro aa hS
          refine dSkip 14 rfl (by kernel_rfl) (by kernel_rfl) (by kernel_rfl) (fun _ _ _ h => h) hS rfl rfl rfl hR0 (by decide) ?_; clear hS; intro aa hS
          refine dSkip 15 rfl (by kernel_rfl) (by kernel_rfl) (by kernel_rfl) (fun _ _ _ h => h) hS rfl rfl rfl hR0 (by decide) ?_; clear hS; intro aa hS
          refine dSkip 16 rfl (by kernel_rfl) (by kernel_rfl) (by kernel_rfl) (fun _ _ _ h => h) hS rfl rfl rfl hR0 (by decide) ?_; clear hS; intro aa hS
          refine dSkip 17 rfl (by kernel_rfl) (by kernel_rfl) (by kernel_rfl) (fun _ _ _ h => h) hS rfl rfl rfl hR0 (by decide) ?_; clear hS; intro aa hS
          refine dSkip 18 rfl (by kernel_rfl) (by kernel_rfl) (by kernel_rfl) (fun _ _ _ h => h) hS rfl rfl rfl hR0 (by decide) ?_; clear hS; intro aa hS
          refine dSkip 19 rfl (by kernel_rfl) (by kernel_rfl) (by kernel_rfl) (fun _ _ _ h => h) hS rfl rfl rfl hR0 (by decide) ?_; clear hS; intro aa hS
          refine dSkip 20 rfl (by kernel_rfl) (by kernel_rfl) (by kernel_rfl) (fun _ _ _ h => h) hS rfl rfl rfl hR0 (by decide) ?_; clear hS; intro aa hS
          refine dSkip 21 rfl (by kernel_rfl) (by kernel_rfl) (by kernel_rfl) (fun _ _ _ h => h) hS rfl rfl rfl hR0 (by decide) ?_; clear hS; intro aa hS
          refine dSkip 22 rfl (by kernel_rfl) (by kernel_rfl) (by kernel_rfl) (fun _ _ _ h => h) hS rfl rfl rfl hR0 (by decide) ?_; clear hS; intro aa hS
          refine dSkip 23 rfl (by kernel_rfl) (by kernel_rfl) (by kernel_rfl) (fun _ _ _ h => h) hS rfl rfl rfl hR0 (by decide) ?_; clear hS; intro aa hS
          refine dSkip 24 rfl (by kernel_rfl) (by kernel_rfl) (by kernel_rfl) (fun _ _ _ h => h) hS rfl rfl rfl hR0 (by decide) ?_; clear hS; intro aa hS
          refine dSkip 25 rfl (by kernel_rfl) (by kernel_rfl) (by kernel_rfl) (fun _ _ _ h => h) hS rfl rfl rfl hR0 (by decide) ?_; clear hS; intro aa hS
          refine dSkip 26 rfl (by kernel_rfl) (by kernel_rfl) (by kernel_rfl) (fun _ _ _ h => h) hS rfl rfl rfl hR0 (by decide) ?_; clear hS; intro aa hS
          refine dSkip 27 rfl (by kernel_rfl) (by kernel_rfl) (by kernel_rfl) (fun _ _ _ h => h) hS rfl rfl rfl hR0 (by decide) ?_; clear hS; intro aa hS
          refine dAg 28 rfl (by kernel_rfl) (by kernel_rfl) (by kernel_rfl) (fun _ _ _ h => h) hS rfl rfl hR0 (Yld.pickT hS rfl rfl) (by decide) ?_; clear hS; intro aa hS
          refine dA 29 rfl (by kernel_rfl) (by kernel_rfl) (by kernel_rfl) (fun _ _ _ h => h) hS hR0 (Yld.pickT hS rfl rfl) (by decide) ?_; clear hS; intro aa hS
          refine wpAnyH_done (by kernel_rfl) ?_ _; clear hR0
          refine hK430 _ _ ?_
          refine condT hS rfl ?_
          refine wp_region_lit ?_
          refine sA hS hR (Yld.move hS rfl) (by decide) ?_; clear hS; intro aa hS
          refine sA hS hR (Yld.assign hS rfl) (by decide) ?_; clear hS; intro aa hS
          refine wpList_nil ?_
          refine hK429 _ _ ?_
          refine wp_region_lit ?_
          refine sA hS hR (Yld.move hS rfl) (by decide) ?_; clear hS; intro aa hS
          refine sA hS hR ((by first | exact Yld.add64 hS rfl rfl (by omega) | exact Yld.add hS rfl rfl)) (by decide) ?_; clear hS; intro aa hS
          refine sA hS hR (Yld.assign hS rfl) (by decide) ?_; clear hS; intro aa hS
          refine wpList_nil ?_
          
          refine ⟨(i + 1, (i : Int)), ?_, ?_, hS.le (Le.cons rfl (Le.cons rfl (Le.nilapp (Le.cons rfl (Le.cons rfl (Le.cons rfl (Le.nil _))))))), hR.sub (Ex.nilapp (by repeat (first | with_reducible exact Ex.refl | (with_reducible apply Ex.take; · repeat (first | with_reducible exact Pk.here | with_reducible apply Pk.there)) | with_reducible apply Ex.drop)))⟩
          · dsimp only; first | exact ⟨by omega, hI.2.take hti (.inl hz0)⟩ | exact ⟨by omega, hI.2.take hti (.inr ⟨_, rfl, by omega⟩)⟩ | exact ⟨by omega, hI.2.skip (.inr ⟨_, rfl, by omega⟩)⟩ | exact ⟨by omega, hI.2.skip (.inl (by omega))⟩
          · dsimp only; omega
        · intro hg hS
          obtain ⟨bz, hbz⟩ : ∃ y : Nat, z = y := ⟨z.toNat, by omega⟩
          have hbi : bz < i := by
            rcases hI.2 with ⟨h3, _⟩ | ⟨y, h3, h4, _⟩
            · omega
            · omega
          subst hbz
          refine dAg 13 rfl (by kernel_rfl) (by kernel_rfl) (by kernel_rfl) (fun _ _ _ h => h) hS rfl rfl hR0 (Yld.move hS rfl) (by decide) ?_; clear hS; intro aa hS
          refine dAg 14 rfl (by kernel_rfl) (by kernel_rfl) (by kernel_rfl) (fun _ _ _ h => h) hS rfl rfl hR0 (Yld.nilCheck hS rfl) (by decide) ?_; clear hS; intro aa hS
          refine dAg 15 rfl (by kernel_rfl) (by kernel_rfl) (by kernel_rfl) (fun _ _ _ h => h) hS rfl rfl hR0 (Yld.fieldAddr hS rfl 0 Try.underlying65 rfl rfl info27 (by decide)) (by decide) ?_; clear hS; intro aa hS
          refine dAg 16 rfl (by kernel_rfl) (by kernel_rfl) (by kernel_rfl) (fun _ _ _ h => h) hS rfl rfl hR0 (Yld.load1 hS rfl Try.underlying27 rfl (by first | exact Rd.blk (by repeat (first | with_reducible exact Pk.here | with_reducible apply Pk.there)) (by rfl) | exact Rd.rec (by repeat (first | with_reducible exact Pk.here | with_reducible apply Pk.there)) (by intro _; rfl) (by first | omega | (rw [tab_len]; omega)) rfl | exact Rd.rec0 (by repeat (first | with_reducible exact Pk.here | with_reducible apply Pk.there)) (by intro _; rfl) (by first | omega | (rw [tab_len]; omega)) rfl | exact Rd.flatJ (by repeat (first | with_reducible exact Pk.here | with_reducible apply Pk.there)) (by intro _; rfl) (by first | omega | (rw [tab_len]; omega)) rfl | exact Rd.flat0 (by repeat (first | with_reducible exact Pk.here | with_reducible apply Pk.there)) (by intro _; rfl) (by first | omega | (rw [tab_len]; omega)) rfl)) (by decide) ?_; clear hS; intro aa hS
          refine dAg 17 rfl (by kernel_rfl) (by kernel_rfl) (by kernel_rfl) (fun _ _ _ h => h) hS rfl rfl hR0 (Yld.move hS rfl) (by decide) ?_; clear hS; intro aa hS
          refine dAg 18 rfl (by kernel_rfl) (by kernel_rfl) (by kernel_rfl) (fun _ _ _ h => h) hS rfl rfl hR0 ((by first | exact Yld.indexH (sz := 1) (i) hS rfl rfl Try.underlying27 info3 (by assumption) rfl (by first | rfl | omega) (by omega) | exact Yld.indexL (sz := 1) (i) hS rfl rfl Try.underlying27 info3 (by repeat (first | with_reducible exact Pk.here | with_reducible apply Pk.there)) rfl (by first | rfl | omega) (by omega) | exact Yld.indexB (sz := 1) (i) hS rfl rfl Try.underlying27 info3 rfl (by first | rfl | omega) (by omega))) (by decide) ?_; clear hS; intro aa hS
          refine dAg 19 rfl (by kernel_rfl) (by kernel_rfl) (by kernel_rfl) (fun _ _ _ h => h) hS rfl rfl hR0 (Yld.load1 hS rfl Try.underlying3 rfl (Rd.rec0 (k := i) (xs := tab S tm) (v := .int .i64 (tm i)) (by repeat (first | with_reducible exact Pk.here | with_reducible apply Pk.there)) (by intro _; rfl) (by rw [tab_len]; omega) (by rw [tab_get]; rfl))) (by decide) ?_; clear hS; intro aa hS
          refine dAg 20 rfl (by kernel_rfl) (by kernel_rfl) (by kernel_rfl) (fun _ _ _ h => h) hS rfl rfl hR0 (Yld.move hS rfl) (by decide) ?_; clear hS; intro aa hS
          refine dAg 21 rfl (by kernel_rfl) (by kernel_rfl) (by kernel_rfl) (fun _ _ _ h => h) hS rfl rfl hR0 (Yld.nilCheck hS rfl) (by decide) ?_; clear hS; intro aa hS
          refine dAg 22 rfl (by kernel_rfl) (by kernel_rfl) (by kernel_rfl) (fun _ _ _ h => h) hS rfl rfl hR0 (Yld.fieldAddr hS rfl 0 Try.underlying65 rfl rfl info27 (by decide)) (by decide) ?_; clear hS; intro aa hS
          refine dAg 23 rfl (by kernel_rfl) (by kernel_rfl) (by kernel_rfl) (fun _ _ _ h => h) hS rfl rfl hR0 (Yld.load1 hS rfl Try.underlying27 rfl (by first | exact Rd.blk (by repeat (first | with_reducible exact Pk.here | with_reducible apply Pk.there)) (by rfl) | exact Rd.rec (by repeat (first | with_reducible exact Pk.here | with_reducible apply Pk.there)) (by intro _; rfl) (by first | omega | (rw [tab_len]; omega)) rfl | exact Rd.rec0 (by repeat (first | with_reducible exact Pk.here | with_reducible apply Pk.there)) (by intro _; rfl) (by first | omega | (rw [tab_len]; omega)) rfl | exact Rd.flatJ (by repeat (first | with_reducible exact Pk.here | with_reducible apply Pk.there)) (by intro _; rfl) (by first | omega | (rw [tab_len]; omega)) rfl | exact Rd.flat0 (by repeat (first | with_reducible exact Pk.here | with_reducible apply Pk.there)) (by intro _; rfl) (by first | omega | (rw [tab_len]; omega)) rfl)) (by decide) ?_; clear hS; intro aa hS
          refine dAg 24 rfl (by kernel_rfl) (by kernel_rfl) (by kernel_rfl) (fun _ _ _ h => h) hS rfl rfl hR0 (Yld.move hS rfl) (by decide) ?_; clear hS; intro aa hS
          refine dAg 25 rfl (by kernel_rfl) (by kernel_rfl) (by kernel_rfl) (fun _ _ _ h => h) hS rfl rfl hR0 ((by first | exact Yld.indexH (sz := 1) (bz) hS rfl rfl Try.underlying27 info3 (by assumption) rfl (by first | rfl | omega) (by omega) | exact Yld.indexL (sz := 1) (bz) hS rfl rfl Try.underlying27 info3 (by repeat (first | with_reducible exact Pk.here | with_reducible apply Pk.there)) rfl (by first | rfl | omega) (by omega) | exact Yld.indexB (sz := 1) (bz) hS rfl rfl Try.underlying27 info3 rfl (by first | rfl | omega) (by omega))) (by decide) ?_; clear hS; intro aa hS
          refine dAg 26 rfl (by kernel_rfl) (by kernel_rfl) (by kernel_rfl) (fun _ _ _ h => h) hS rfl rfl hR0 (Yld.load1 hS rfl Try.underlying3 rfl (Rd.rec0 (k := bz) (xs := tab S tm) (v := .int .i64 (tm bz)) (by repeat (first | with_reducible exact Pk.here | with_reducible apply Pk.there)) (by intro _; rfl) (by rw [tab_len]; omega) (by rw [tab_get]; rfl))) (by decide) ?_; clear hS; intro aa hS
          refine dAg 27 rfl (by kernel_rfl) (by kernel_rfl) (by kernel_rfl) (fun _ _ _ h => h) hS rfl rfl hR0 (Yld.lss hS rfl rfl) (by decide) ?_; clear hS; intro aa hS
          refine dAg 28 rfl (by kernel_rfl) (by kernel_rfl) (by kernel_rfl) (fun _ _ _ h => h) hS rfl rfl hR0 (Yld.pickF hS rfl rfl) (by decide) ?_; clear hS; intro aa hS
          refine dA 29 rfl (by kernel_rfl) (by kernel_rfl) (by kernel_rfl) (fun _ _ _ h => h) hS hR0 (Yld.pickT hS rfl rfl) (by decide) ?_; clear hS; intro aa hS
          refine wpAnyH_done (by kernel_rfl) ?_ _; clear hR0
          refine hK430 _ _ ?_
          refine hS.splitB (t := 50) rfl ?_ ?_ <;> clear hS
          · intro hg hS
            refine condT hS rfl ?_
            refine wp_region_lit ?_
            refine sA hS hR (Yld.move hS rfl) (by decide) ?_; clear hS; intro aa hS
            refine sA hS hR (Yld.assign hS rfl) (by decide) ?_; clear hS; intro aa hS
            refine wpList_nil ?_
            refine hK429 _ _ ?_
            refine wp_region_lit ?_
            refine sA hS hR (Yld.move hS rfl) (by decide) ?_; clear hS; intro aa hS
            refine sA hS hR ((by first | exact Yld.add64 hS rfl rfl (by omega) | exact Yld.add hS rfl rfl)) (by decide) ?_; clear hS; intro aa hS
            refine sA hS hR (Yld.assign hS rfl) (by decide) ?_; clear hS; intro aa hS
            refine wpList_nil ?_
            
            refine ⟨(i + 1, (i : Int)), ?_, ?_, hS.le (Le.cons rfl (Le.cons rfl (Le.nilapp (Le.cons rfl (Le.cons rfl (Le.cons rfl (Le.nil _))))))), hR.sub (Ex.nilapp (by repeat (first | with_reducible exact Ex.refl | (with_reducible apply Ex.take; · repeat (first | with_reducible exact Pk.here | with_reducible apply Pk.there)) | with_reducible apply Ex.drop)))⟩
            · dsimp only; first | exact ⟨by omega, hI.2.take hti (.inl hz0)⟩ | exact ⟨by omega, hI.2.take hti (.inr ⟨_, rfl, by omega⟩)⟩ | exact ⟨by omega, hI.2.skip (.inr ⟨_, rfl, by omega⟩)⟩ | exact ⟨by omega, hI.2.skip (.inl (by omega))⟩
            · dsimp only; omega
          · intro hg hS
            refine condF hS rfl ?_
            refine wp_skip ?_
            refine hK429 _ _ ?_
            refine wp_region_lit ?_
            refine sA hS hR (Yld.move hS rfl) (by decide) ?_; clear hS; intro aa hS
            refine sA hS hR ((by first | exact Yld.add64 hS rfl rfl (by omega) | exact Yld.add hS rfl rfl)) (by decide) ?_; clear hS; intro aa hS
            refine sA hS hR (Yld.assign hS rfl) (by decide) ?_; clear hS; intro aa hS
            refine wpList_nil ?_
            
            refine ⟨(i + 1, (bz : Int)), ?_, ?_, hS.le (Le.cons rfl (Le.cons rfl (Le.nilapp (Le.cons rfl (Le.cons rfl (Le.cons rfl (Le.nil _))))))), hR.sub (Ex.nilapp (by repeat (first | with_reducible exact Ex.refl | (with_reducible apply Ex.take; · repeat (first | with_reducible exact Pk.here | with_reducible apply Pk.there)) | with_reducible apply Ex.drop)))⟩
            · dsimp only; first | exact ⟨by omega, hI.2.take hti (.inl hz0)⟩ | exact ⟨by omega, hI.2.take hti (.inr ⟨_, rfl, by omega⟩)⟩ | exact ⟨by omega, hI.2.skip (.inr ⟨_, rfl, by omega⟩)⟩ | exact ⟨by omega, hI.2.skip (.inl (by omega))⟩
            · dsimp only; omega
      · intro hg hS
        have hti := hg
        refine dSkip 10 rfl (by kernel_rfl) (by kernel_rfl) (by kernel_rfl) (fun _ _ _ h => h) hS rfl rfl rfl hR0 (by decide) ?_; clear hS; intro aa hS
        refine dSkip 11 rfl (by kernel_rfl) (by kernel_rfl) (by kernel_rfl) (fun _ _ _ h => h) hS rfl rfl rfl hR0 (by decide) ?_; clear hS; intro aa hS
        refine dSkip 12 rfl (by kernel_rfl) (by kernel_rfl) (by kernel_rfl) (fun _ _ _ h => h) hS rfl rfl rfl hR0 (by decide) ?_; clear hS; intro aa hS
        refine dSkipU 13 rfl (by kernel_rfl) (by kernel_rfl) (by kernel_rfl) (fun _ _ _ h => h) hS rfl rfl hR0 (by decide) ?_; clear hS; intro aa hS
        refine dSkipU 14 rfl (by kernel_rfl) (by kernel_rfl) (by kernel_rfl) (fun _ _ _ h => h) hS rfl rfl hR0 (by decide) ?_; clear hS; intro aa hS
        refine dSkipU 15 rfl (by kernel_rfl) (by kernel_rfl) (by kernel_rfl) (fun _ _ _ h => h) hS rfl rfl hR0 (by decide) ?_; clear hS; intro aa hS
        refine dSkipU 16 rfl (by kernel_rfl) (by kernel_rfl) (by kernel_rfl) (fun _ _ _ h => h) hS rfl rfl hR0 (by decide) ?_; clear hS; intro aa hS
        refine dSkipU 17 rfl (by kernel_rfl) (by kernel_rfl) (by kernel_rfl) (fun _ _ _ h => h) hS rfl rfl hR0 (by decide) ?_; clear hS; intro aa hS
        refine dSkipU 18 rfl (by kernel_rfl) (by kernel_rfl) (by kernel_rfl) (fun _ _ _ h => h) hS rfl rfl hR0 (by decide) ?_; clear hS; intro aa hS
        refine dSkipU 19 rfl (by kernel_rfl) (by kernel_rfl) (by kernel_rfl) (fun _ _ _ h => h) hS rfl rfl hR0 (by decide) ?_; clear hS; intro aa hS
        refine dSkipU 20 rfl (by kernel_rfl) (by kernel_rfl) (by kernel_rfl) (fun _ _ _ h => h) hS rfl rfl hR0 (by decide) ?_; clear hS; intro aa hS
        refine dSkipU 21 rfl (by kernel_rfl) (by kernel_rfl) (by kernel_rfl) (fun _ _ _ h => h) hS rfl rfl hR0 (by decide) ?_; clear hS; intro aa hS
        refine dSkipU 22 rfl (by kernel_rfl) (by kernel_rfl) (by kernel_rfl) (fun _ _ _ h => h) hS rfl rfl hR0 (by decide) ?_; clear hS; intro aa hS
        refine dSkipU 23 rfl (by kernel_rfl) (by kernel_rfl) (by kernel_rfl) (fun _ _ _ h => h) hS rfl rfl hR0 (by decide) ?_; clear hS; intro aa hS
        refine dSkipU 24 rfl (by kernel_rfl) (by kernel_rfl) (by kernel_rfl) (fun _ _ _ h => h) hS rfl rfl hR0 (by decide) ?_; clear hS; intro aa hS
        refine dSkipU 25 rfl (by kernel_rfl) (by kernel_rfl) (by kernel_rfl) (fun _ _ _ h => h) hS rfl rfl hR0 (by decide) ?_; clear hS; intro aa hS
        refine dSkipU 26 rfl (by kernel_rfl) (by kernel_rfl) (by kernel_rfl) (fun _ _ _ h => h) hS rfl rfl hR0 (by decide) ?_; clear hS; intro aa hS
        refine dSkipU 27 rfl (by kernel_rfl) (by kernel_rfl) (by kernel_rfl) (fun _ _ _ h => h) hS rfl rfl hR0 (by decide) ?_; clear hS; intro aa hS
        refine dSkip 28 rfl (by kernel_rfl) (by kernel_rfl) (by kernel_rfl) (fun _ _ _ h => h) hS rfl rfl rfl hR0 (by decide) ?_; clear hS; intro aa hS
        refine dA 29 rfl (by kernel_rfl) (by kernel_rfl) (by kernel_rfl) (fun _ _ _ h => h) hS hR0 (Yld.pickF hS rfl rfl) (by decide) ?_; clear hS; intro aa hS
        refine wpAnyH_done (by kernel_rfl) ?_ _; clear hR0
        refine hK430 _ _ ?_
        refine condF hS rfl ?_
        refine wp_skip ?_
        refine hK429 _ _ ?_
        refine wp_region_lit ?_
        refine sA hS hR (Yld.move hS rfl) (by decide) ?_; clear hS; intro aa hS
        refine sA hS hR ((by first | exact Yld.add64 hS rfl rfl (by omega) | exact Yld.add hS rfl rfl)) (by decide) ?_; clear hS; intro aa hS
        refine sA hS hR (Yld.assign hS rfl) (by decide) ?_; clear hS; intro aa hS
        refine wpList_nil ?_
        
        refine ⟨(i + 1, z), ?_, ?_, hS.le (Le.cons rfl (Le.cons rfl (Le.nilapp (Le.cons rfl (Le.cons rfl (Le.cons rfl (Le.nil _))))))), hR.sub (Ex.nilapp (by repeat (first | with_reducible exact Ex.refl | (with_reducible apply Ex.take; · repeat (first | with_reducible exact Pk.here | with_reducible apply Pk.there)) | with_reducible apply Ex.drop)))⟩
        · dsimp only; first | exact ⟨by omega, hI.2.take hti (.inl hz0)⟩ | exact ⟨by omega, hI.2.take hti (.inr ⟨_, rfl, by omega⟩)⟩ | exact ⟨by omega, hI.2.skip (.inr ⟨_, rfl, by omega⟩)⟩ | exact ⟨by omega, hI.2.skip (.inl (by omega))⟩
        · dsimp only; omega
    · intro hg hS
      obtain rfl : S = i := by omega
      refine condF hS rfl ?_
      refine wp_exit ?_
      refine hK424 _ _ ?_
      refine wp_seq_k ?_; intro K431 hK431
      refine wp_seq_k ?_; intro K432 hK432
      refine wp_region_lit ?_
      refine sA hS hR (Yld.move hS rfl) (by decide) ?_; clear hS; intro aa hS
      refine sA hS hR (Yld.lss hS rfl rfl) (by decide) ?_; clear hS; intro aa hS
      refine wpList_nil ?_
      refine hK432 _ _ ?_
      refine hS.splitB (t := 53) rfl ?_ ?_ <;> clear hS
      · intro hg hS
        have hj := hLS.stop (j := j) h0 (by rw [hF]; exact hJ) (by rw [hF]; rcases hI.2 with ⟨_, h4⟩ | ⟨y, h3, _⟩; exact h4; omega)
        rw [hF] at hj
        refine condT hS rfl ?_
        refine wp_seq_k ?_; intro K433 hK433
        refine wp_region_lit ?_
        refine sA hS hR (Yld.move hS rfl) (by decide) ?_; clear hS; intro aa hS
        refine sA hS hR (Yld.assign hS rfl) (by decide) ?_; clear hS; intro aa hS
        refine wpList_nil ?_
        refine hK433 _ _ ?_
        refine wp_ret ?_
        repeat (first | with_reducible refine thenR ?_ | with_reducible refine blockR ?_ | with_reducible refine scopeR ?_)
        refine ret1 (fn := Try.f41) (e := .ret) (.inl rfl) Try.results41 hS hR ⟨_, (.tmp rfl), ?_⟩
        subst hj
        rw [List.take_of_length_le (Nat.le_refl _)] at hR
        have h9 : Sep (rluA 65 3 b2 S tm now :: sls r0 (cst F).length c0 3 1 ((cst F).flatMap e1) :: l) _ := Sep.rluI (TR := 65) (TI := 3) (b2 := b2) (hR.sub (by repeat (first | with_reducible exact Ex.refl | (with_reducible apply Ex.take; · repeat (first | with_reducible exact Pk.here | with_reducible apply Pk.there)) | with_reducible apply Ex.drop)))
        rw [hF]
        exact ⟨r0, c0, by rw [List.take_of_length_le (Nat.le_refl _)], h9.swap⟩
      · intro hg hS
        obtain ⟨y, hzy, hyS, hy1, hy2⟩ : ∃ y : Nat, z = y ∧ y < S ∧ tm y > lastS F T t0 j ∧ ∀ x, x < S → tm x > lastS F T t0 j → tm y ≤ tm x := by
          rcases hI.2 with ⟨h3, _⟩ | h4
          · omega
          · exact h4
        obtain ⟨hjl, hjy⟩ := hLS.pick (j := j) h0 (by rw [hF]; exact hJ) hyS (by rw [hF]; exact hy1) (by rw [hF]; exact hy2)
        simp only [hF] at hjl hjy
        have hyT : tm y = T y := hLS.tm1 y (by have h9 : y ∈ F := by rw [← hjy]; exact List.getElem_mem hjl
                                               rw [← hF, List.mem_filter] at h9; exact h9.1)
        subst hzy
        have hfk := cst_len (l := F.take j)
        have hft : (F.take j).length ≤ F.length := by rw [List.length_take]; omega
        refine condF hS rfl ?_
        refine wp_skip ?_
        refine hK431 _ _ ?_
        refine wp_seq_k ?_; intro K434 hK434
        refine wp_region_lit ?_
        refine sA hS hR (Yld.move hS rfl) (by decide) ?_; clear hS; intro aa hS
        refine sA hS hR (Yld.move hS rfl) (by decide) ?_; clear hS; intro aa hS
        refine sB (BbuildSlice hS hR rfl (bls27_1_0 _) (by decide) ?_); clear hS hR; intro aa ww bb57 hS hR
        refine sB (BappendR (sz := 1) hS hR rfl rfl Try.underlying27 info3 rfl rfl (by rfl) (by repeat (first | with_reducible exact Pk.here | with_reducible apply Pk.there)) (XC.one ((y : Int)) (by repeat (first | with_reducible exact Pk.here | with_reducible apply Pk.there)) (by rfl) rfl) (by intro _; rfl) (by show (_ + _) * 8 ≤ _; first | omega | (rw [tab_len]; omega)) (by first | omega | (rw [tab_len]; omega)) (by first | rfl | (simp; done) | (simp; omega)) (by decide) ?_); clear hS hR; intro aa ww r58 c58 hS hR
        rw [cst_snoc, ← hjy, ← List.take_succ_eq_append_getElem hjl] at hS hR
        refine sA hS hR (Yld.assign hS rfl) (by decide) ?_; clear hS; intro aa hS
        refine wpList_nil ?_
        refine hK434 _ _ ?_
        refine wp_region_lit ?_
        refine sA hS hR (Yld.move hS rfl) (by decide) ?_; clear hS; intro aa hS
        refine sA hS hR (Yld.nilCheck hS rfl) (by decide) ?_; clear hS; intro aa hS
        refine sA hS hR (Yld.fieldAddr hS rfl 0 Try.underlying65 rfl rfl info27 (by decide)) (by decide) ?_; clear hS; intro aa hS
        refine sA hS hR (Yld.load1 hS rfl Try.underlying27 rfl (by first | exact Rd.blk (by repeat (first | with_reducible exact Pk.here | with_reducible apply Pk.there)) (by rfl) | exact Rd.rec (by repeat (first | with_reducible exact Pk.here | with_reducible apply Pk.there)) (by intro _; rfl) (by first | omega | (rw [tab_len]; omega)) rfl | exact Rd.rec0 (by repeat (first | with_reducible exact Pk.here | with_reducible apply Pk.there)) (by intro _; rfl) (by first | omega | (rw [tab_len]; omega)) rfl | exact Rd.flatJ (by repeat (first | with_reducible exact Pk.here | with_reducible apply Pk.there)) (by intro _; rfl) (by first | omega | (rw [tab_len]; omega)) rfl | exact Rd.flat0 (by repeat (first | with_reducible exact Pk.here | with_reducible apply Pk.there)) (by intro _; rfl) (by first | omega | (rw [tab_len]; omega)) rfl)) (by decide) ?_; clear hS; intro aa hS
        refine sA hS hR (Yld.move hS rfl) (by decide) ?_; clear hS; intro aa hS
        refine sA hS hR ((by first | exact Yld.indexH (sz := 1) (y) hS rfl rfl Try.underlying27 info3 (by assumption) rfl (by first | rfl | omega) (by omega) | exact Yld.indexL (sz := 1) (y) hS rfl rfl Try.underlying27 info3 (by repeat (first | with_reducible exact Pk.here | with_reducible apply Pk.there)) rfl (by first | rfl | omega) (by omega) | exact Yld.indexB (sz := 1) (y) hS rfl rfl Try.underlying27 info3 rfl (by first | rfl | omega) (by omega))) (by decide) ?_; clear hS; intro aa hS
        refine sA hS hR (Yld.load1 hS rfl Try.underlying3 rfl (Rd.rec0 (k := y) (xs := tab S tm) (v := .int .i64 (tm y)) (by repeat (first | with_reducible exact Pk.here | with_reducible apply Pk.there)) (by intro _; rfl) (by rw [tab_len]; omega) (by rw [tab_get]; rfl))) (by decide) ?_; clear hS; intro aa hS
        replace hS := hS.say (t := 65) (.int .i64 (lastS F T t0 (j + 1))) rfl (by rw [lastS_next hjl hjy, hyT])
        refine sA hS hR (Yld.assign hS rfl) (by decide) ?_; clear hS; intro aa hS
        refine wpList_nil ?_
        
        refine ⟨(j + 1, _, _), ?_, ?_, hS.le (Le.cons rfl (Le.cons rfl (Le.nilapp (Le.cons rfl (Le.nil _))))), hR.sub (Ex.take (by repeat (first | with_reducible exact Pk.here | with_reducible apply Pk.there)) (Ex.nilapp (by repeat (first | with_reducible exact Ex.refl | (with_reducible apply Ex.take; · repeat (first | with_reducible exact Pk.here | with_reducible apply Pk.there)) | with_reducible apply Ex.drop))))⟩
        · dsimp only; omega
        · dsimp only; omega
  · intro hg hS
    have hst : t0 = 0 := by omega
    replace hS := hS.say (t := 6) (.int .i64 t0) rfl (by rw [hst])
    refine condF hS rfl ?_
    refine wp_skip ?_
    refine hK420 _ _ ?_
    refine wp_block ?_
    replace hR := hR.slsNil (T := 3) (sz := 1)
    replace hR := hR.pk (r := sls none 0 0 3 1 []) (by repeat (first | with_reducible exact Pk.here | with_reducible apply Pk.there))
    refine loopI (X := Nat × Option Addr × Nat) [(0, _)] (fun x => [(5, .slice x.2.1 (cst (F.take x.1)).length x.2.2), (6, .int .i64 (lastS F T t0 x.1))]) (fun x => [sls x.2.1 (cst (F.take x.1)).length x.2.2 3 1 ((cst (F.take x.1)).flatMap e1)]) _ (fun x => x.1 ≤ F.length) (fun x => F.length - x.1) (0, none, 0) (Nat.zero_le _) (hS.le (Le.cons rfl (Le.cons rfl (Le.nilapp (Le.cons rfl (Le.nil _)))))) hR ?_
    clear hS hR; rintro ⟨j, r0, c0⟩ aa ww hI hS hR; dsimp only [List.cons_append, List.nil_append] at hI hS hR
    have hJ : j ≤ F.length := hI
    refine wp_block ?_
    refine wp_seq_k ?_; intro K436 hK436
    refine wp_region_lit ?_
    refine sA hS hR (Yld.assign hS rfl) (by decide) ?_; clear hS; intro aa hS
    refine wpList_nil ?_
    refine hK436 _ _ ?_
    refine wp_seq_k ?_; intro K437 hK437
    refine wp_seq_k ?_; intro K438 hK438
    refine wp_region_lit ?_
    refine sA hS hR (Yld.assign hS rfl) (by decide) ?_; clear hS; intro aa hS
    refine wpList_nil ?_
    refine hK438 _ _ ?_
    refine wp_block ?_
    refine loopI (X := Nat × Int) [(0, _), (5, _), (6, _)] (fun x => [(7, .int .i64 x.2), (8, .int .i64 (x.1 : Int))]) (fun x => []) _ (fun x => x.1 ≤ S ∧ Bst tm (lastS F T t0 j) x.1 x.2) (fun x => S - x.1) (0, -1) ⟨Nat.zero_le _, Bst.start⟩ (hS.le (Le.cons rfl (Le.cons rfl (Le.nilapp (Le.cons rfl (Le.cons rfl (Le.cons rfl (Le.nil _)))))))) hR ?_
    clear hS hR; rintro ⟨i, z⟩ aa ww hI hS hR; dsimp only [List.cons_append, List.nil_append] at hI hS hR
    refine wp_seq_k ?_; intro K440 hK440
    refine wp_seq_k ?_; intro K441 hK441
    refine wp_region_lit ?_
    refine sA hS hR (Yld.move hS rfl) (by decide) ?_; clear hS; intro aa hS
    refine sA hS hR (Yld.move hS rfl) (by decide) ?_; clear hS; intro aa hS
    refine sA hS hR (Yld.nilCheck hS rfl) (by decide) ?_; clear hS; intro aa hS
    refine sA hS hR (Yld.fieldAddr hS rfl 0 Try.underlying65 rfl rfl info27 (by decide)) (by decide) ?_; clear hS; intro aa hS
    refine sA hS hR (Yld.load1 hS rfl Try.underlying27 rfl (by first | exact Rd.blk (by repeat (first | with_reducible exact Pk.here | with_reducible apply Pk.there)) (by rfl) | exact Rd.rec (by repeat (first | with_reducible exact Pk.here | with_reducible apply Pk.there)) (by intro _; rfl) (by first | omega | (rw [tab_len]; omega)) rfl | exact Rd.rec0 (by repeat (first | with_reducible exact Pk.here | with_reducible apply Pk.there)) (by intro _; rfl) (by first | omega | (rw [tab_len]; omega)) rfl | exact Rd.flatJ (by repeat (first | with_reducible exact Pk.here | with_reducible apply Pk.there)) (by intro _; rfl) (by first | omega | (rw [tab_len]; omega)) rfl | exact Rd.flat0 (by repeat (first | with_reducible exact Pk.here | with_reducible apply Pk.there)) (by intro _; rfl) (by first | omega | (rw [tab_len]; omega)) rfl)) (by decide) ?_; clear hS; intro aa hS
    refine sA hS hR (Yld.len hS rfl Try.underlying27) (by decide) ?_; clear hS; intro aa hS
    refine sA hS hR (Yld.lss hS rfl rfl) (by decide) ?_; clear hS; intro aa hS
    refine wpList_nil ?_
    refine hK441 _ _ ?_
    refine hS.splitB (t := 18) rfl ?_ ?_ <;> clear hS
    · intro hg hS
      refine condT hS rfl ?_
      refine wp_skip ?_
      refine hK440 _ _ ?_
      refine wp_seq_k ?_; intro K442 hK442
      refine wp_block ?_
      refine wp_seq_k ?_; intro K443 hK443
      refine drawn (by kernel_rfl) hR Ex.refl ?_; clear hR; intro ww hR hR0
      refine dA 0 rfl (by kernel_rfl) (by kernel_rfl) (by kernel_rfl) (fun _ _ _ h => h) hS hR0 (Yld.move hS rfl) (by decide) ?_; clear hS; intro aa hS
      refine dA 1 rfl (by kernel_rfl) (by kernel_rfl) (by kernel_rfl) (fun _ _ _ h => h) hS hR0 (Yld.nilCheck hS rfl) (by decide) ?_; clear hS; intro aa hS
      refine dA 2 rfl (by kernel_rfl) (by kernel_rfl) (by kernel_rfl) (fun _ _ _ h => h) hS hR0 (Yld.fieldAddr hS rfl 0 Try.underlying65 rfl rfl info27 (by decide)) (by decide) ?_; clear hS; intro aa hS
      refine dA 3 rfl (by kernel_rfl) (by kernel_rfl) (by kernel_rfl) (fun _ _ _ h => h) hS hR0 (Yld.load1 hS rfl Try.underlying27 rfl (by first | exact Rd.blk (by repeat (first | with_reducible exact Pk.here | with_reducible apply Pk.there)) (by rfl) | exact Rd.rec (by repeat (first | with_reducible exact Pk.here | with_reducible apply Pk.there)) (by intro _; rfl) (by first | omega | (rw [tab_len]; omega)) rfl | exact Rd.rec0 (by repeat (first | with_reducible exact Pk.here | with_reducible apply Pk.there)) (by intro _; rfl) (by first | omega | (rw [tab_len]; omega)) rfl | exact Rd.flatJ (by repeat (first | with_reducible exact Pk.here | with_reducible apply Pk.there)) (by intro _; rfl) (by first | omega | (rw [tab_len]; omega)) rfl | exact Rd.flat0 (by repeat (first | with_reducible exact Pk.here | with_reducible apply Pk.there)) (by intro _; rfl) (by first | omega | (rw [tab_len]; omega)) rfl)) (by decide) ?_; clear hS; intro aa hS
      refine dA 4 rfl (by kernel_rfl) (by kernel_rfl) (by kernel_rfl) (fun _ _ _ h => h) hS hR0 (Yld.move hS rfl) (by decide) ?_; clear hS; intro aa hS
      refine dA 5 rfl (by kernel_rfl) (by kernel_rfl) (by kernel_rfl) (fun _ _ _ h => h) hS hR0 ((by first | exact Yld.indexH (sz := 1) (i) hS rfl rfl Try.underlying27 info3 (by assumption) rfl (by first | rfl | omega) (by omega) | exact Yld.indexL (sz := 1) (i) hS rfl rfl Try.underlying27 info3 (by repeat (first | with_reducible exact Pk.here | with_reducible apply Pk.there)) rfl (by first | rfl | omega) (by omega) | exact Yld.indexB (sz := 1) (i) hS rfl rfl Try.underlying27 info3 rfl (by first | rfl | omega) (by omega))) (by decide) ?_; clear hS; intro aa hS
      refine dA 6 rfl (by kernel_rfl) (by kernel_rfl) (by kernel_rfl) (fun _ _ _ h => h) hS hR0 (Yld.load1 hS rfl Try.underlying3 rfl (Rd.rec0 (k := i) (xs := tab S tm) (v := .int .i64 (tm i)) (by repeat (first | with_reducible exact Pk.here | with_reducible apply Pk.there)) (by intro _; rfl) (by rw [tab_len]; omega) (by rw [tab_get]; rfl))) (by decide) ?_; clear hS; intro aa hS
      refine dA 7 rfl (by kernel_rfl) (by kernel_rfl) (by kernel_rfl) (fun _ _ _ h => h) hS hR0 (Yld.move hS rfl) (by decide) ?_; clear hS; intro aa hS
      refine dA 8 rfl (by kernel_rfl) (by kernel_rfl) (by kernel_rfl) (fun _ _ _ h => h) hS hR0 (Yld.gtr hS rfl rfl) (by decide) ?_; clear hS; intro aa hS
      refine dA 9 rfl (by kernel_rfl) (by kernel_rfl) (by kernel_rfl) (fun _ _ _ h => h) hS hR0 (Yld.move hS rfl) (by decide) ?_; clear hS; intro aa hS
      refine hS.splitB (t := 30) rfl ?_ ?_ <;> clear hS
      · intro hg hS
        have hti := hg
        refine dAg 10 rfl (by kernel_rfl) (by kernel_rfl) (by kernel_rfl) (fun _ _ _ h => h) hS rfl rfl hR0 (Yld.move hS rfl) (by decide) ?_; clear hS; intro aa hS
        refine dAg 11 rfl (by kernel_rfl) (by kernel_rfl) (by kernel_rfl) (fun _ _ _ h => h) hS rfl rfl hR0 (Yld.lss hS rfl rfl) (by decide) ?_; clear hS; intro aa hS
        refine dAg 12 rfl (by kernel_rfl) (by kernel_rfl) (by kernel_rfl) (fun _ _ _ h => h) hS rfl rfl hR0 (Yld.move hS rfl) (by decide) ?_; clear hS; intro aa hS
        refine hS.splitB (t := 33) rfl ?_ ?_ <;> clear hS
        · intro hg hS
          have hz0 := hg
          refine dSkip 13 rfl (by kernel_rfl) (by kernel_rfl) (by kernel_rfl) (fun _ _ _ h => h) hS rfl rfl rfl hR0 (by decide) ?_; clear hS; intro aa hS
          refine dSkip 14 rfl (by kernel_rfl) (by kernel_rfl) (by kernel_rfl) (fun _ _ _ h => h) hS rfl rfl rfl hR0 (by decide) ?_; clear hS; intro aa hS
          refine dSkip 15 rfl (by kernel_rfl) (by kernel_rfl) (by kernel_rfl) (fun _ _ _ h => h) hS rfl rfl rfl hR0 (by decide) ?_; clear hS; intro aa hS
          refine dSkip 16 rfl (by kernel_rfl) (by kernel_rfl) (by kernel_rfl) (fun _ _ _ h => h) hS rfl rfl rfl hR0 (by decide) ?_; clear hS; intro aa hS
          refine dSkip 17 rfl (by kernel_rfl) (by kernel_rfl) (by kernel_rfl) (fun _ _ _ h => h) hS rfl rfl rfl hR0 (by decide) ?_; clear hS; intro aa hS
          refine dSkip 18 rfl (by kernel_rfl) (by kernel_rfl) (by kernel_rfl) (fun _ _ _ h => h) hS rfl rfl rfl hR0 (by decide) ?_; clear hS; intro aa hS
          refine dSkip 19 rfl (by kernel_rfl) (by kernel_rfl) (by kernel_rfl) (fun _ _ _ h => h) hS rfl rfl rfl hR0 (by decide) ?_; clear hS; intro aa hS
          refine dSkip 20 rfl (by kernel_rfl) (by kernel_rfl) (by kernel_rfl) (fun _ _ _ h => h) hS rfl rfl rfl hR0 (by decide) ?_; clear hS; intro aa hS
          refine dSkip 21 rfl (by kernel_rfl) (by kernel_rfl) (by kernel_rfl) (fun _ _ _ h => h) hS rfl rfl rfl hR0 (by decide) ?_; clear hS; intro aa hS
          refine dSkip 22 rfl (by kernel_rfl) (by kernel_rfl) (by kernel_rfl) (fun _ _ _ h => h) hS rfl rfl rfl hR0 (by decide) ?_; clear hS; intro aa hS
          refine dSkip 23 rfl (by kernel_rfl) (by kernel_rfl) (by kernel_rfl) (fun _ _ _ h => h) hS rfl rfl rfl hR0 (by decide) ?_; clear hS; intro aa hS
          refine dSkip 24 rfl (by kernel_rfl) (by kernel_rfl) (by kernel_rfl) (fun _ _ _ h => h) hS rfl rfl rfl hR0 (by decide) ?_; clear hS; intro aa hS
          refine dSkip 25 rfl (by kernel_rfl) (by kernel_rfl) (by kernel_rfl) (fun _ _ _ h => h) hS rfl rfl rfl hR0 (by decide) ?_; clear hS; intro aa hS
          refine dSkip 26 rfl (by kernel_rfl) (by kernel_rfl) (by kernel_rfl) (fun _ _ _ h => h) hS rfl rfl rfl hR0 (by decide) ?_; clear hS; intro aa hS
          refine dSkip 27 rfl (by kernel_rfl) (by kernel_rfl) (by kernel_rfl) (fun _ _ _ h => h) hS rfl rfl rfl hR0 (by decide) ?_; clear hS; intro aa hS
          refine dAg 28 rfl (by kernel_rfl) (by kernel_rfl) (by kernel_rfl) (fun _ _ _ h => h) hS rfl rfl hR0 (Yld.pickT hS rfl rfl) (by decide) ?_; clear hS; intro aa hS
          refine dA 29 rfl (by kernel_rfl) (by kernel_rfl) (by kernel_rfl) (fun _ _ _ h => h) hS hR0 (Yld.pickT hS rfl rfl) (by decide) ?_; clear hS; intro aa hS
          refine wpAnyH_done (by kernel_rfl) ?_ _; clear hR0
          refine hK443 _ _ ?_
          refine condT hS rfl ?_
          refine wp_region_lit ?_
          refine sA hS hR (Yld.move hS rfl) (by decide) ?_; clear hS; intro aa hS
          refine sA hS hR (Yld.assign hS rfl) (by decide) ?_; clear hS; intro aa hS
          refine wpList_nil ?_
          refine hK442 _ _ ?_
          refine wp_region_lit ?_
          refine sA hS hR (Yld.move hS rfl) (by decide) ?_; clear hS; intro aa hS
          refine sA hS hR ((by first | exact Yld.add64 hS rfl rfl (by omega) | exact Yld.add hS rfl rfl)) (by decide) ?_; clear hS; intro aa hS
          refine sA hS hR (Yld.assign hS rfl) (by decide) ?_; clear hS; intro aa hS
          refine wpList_nil ?_
          
          refine ⟨(i + 1, (i : Int)), ?_, ?_, hS.le (Le.cons rfl (Le.cons rfl (Le.nilapp (Le.cons rfl (Le.cons rfl (Le.cons rfl (Le.nil _))))))), hR.sub (Ex.nilapp (by repeat (first | with_reducible exact Ex.refl | (with_reducible apply Ex.take; · repeat (first | with_reducible exact Pk.here | with_reducible apply Pk.there)) | with_reducible apply Ex.drop)))⟩
          · dsimp only; first | exact ⟨by omega, hI.2.take hti (.inl hz0)⟩ | exact ⟨by omega, hI.2.take hti (.inr ⟨_, rfl, by omega⟩)⟩ | exact ⟨by omega, hI.2.skip (.inr ⟨_, rfl, by omega⟩)⟩ | exact ⟨by omega, hI.2.skip (.inl (by omega))⟩
          · dsimp only; omega
        · intro hg hS
          obtain ⟨bz, hbz⟩ : ∃ y : Nat, z = y := ⟨z.toNat, by omega⟩
          have hbi : bz < i := by
            rcases hI.2 with ⟨h3, _⟩ | ⟨y, h3, h4, _⟩
            · omega
            · omega
          subst hbz
          refine dAg 13 rfl (by kernel_rfl) (by kernel_rfl) (by kernel_rfl) (fun _ _ _ h => h) hS rfl rfl hR0 (Yld.move hS rfl) (by decide) ?_; clear hS; intro aa hS
          refine dAg 14 rfl (by kernel_rfl) (by kernel_rfl) (by kernel_rfl) (fun _ _ _ h => h) hS rfl rfl hR0 (Yld.nilCheck hS rfl) (by decide) ?_; clear hS; intro aa hS
          refine dAg 15 rfl (by kernel_rfl) (by kernel_rfl) (by kernel_rfl) (fun _ _ _ h => h) hS rfl rfl hR0 (Yld.fieldAddr hS rfl 0 Try.underlying65 rfl rfl info27 (by decide)) (by decide) ?_; clear hS; intro aa hS
          refine dAg 16 rfl (by kernel_rfl) (by kernel_rfl) (by kernel_rfl) (fun _ _ _ h => h) hS rfl rfl hR0 (Yld.load1 hS rfl Try.underlying27 rfl (by first | exact Rd.blk (by repeat (first | with_reducible exact Pk.here | with_reducible apply Pk.there)) (by rfl) | exact Rd.rec (by repeat (first | with_reducible exact Pk.here | with_reducible apply Pk.there)) (by intro _; rfl) (by first | omega | (rw [tab_len]; omega)) rfl | exact Rd.rec0 (by repeat (first | with_reducible exact Pk.here | with_reducible apply Pk.there)) (by intro _; rfl) (by first | omega | (rw [tab_len]; omega)) rfl | exact Rd.flatJ (by repeat (first | with_reducible exact Pk.here | with_reducible apply Pk.there)) (by intro _; rfl) (by first | omega | (rw [tab_len]; omega)) rfl | exact Rd.flat0 (by repeat (first | with_reducible exact Pk.here | with_reducible apply Pk.there)) (by intro _; rfl) (by first | omega | (rw [tab_len]; omega)) rfl)) (by decide) ?_; clear hS; intro aa hS
          refine dAg 17 rfl (by kernel_rfl) (by kernel_rfl) (by kernel_rfl) (fun _ _ _ h => h) hS rfl rfl hR0 (Yld.move hS rfl) (by decide) ?_; clear hS; intro aa hS
          refine dAg 18 rfl (by kernel_rfl) (by kernel_rfl) (by kernel_rfl) (fun _ _ _ h => h) hS rfl rfl hR0 ((by first | exact Yld.indexH (sz := 1) (i) hS rfl rfl Try.underlying27 info3 (by assumption) rfl (by first | rfl | omega) (by omega) | exact Yld.indexL (sz := 1) (i) hS rfl rfl Try.underlying27 info3 (by repeat (first | with_reducible exact Pk.here | with_reducible apply Pk.there)) rfl (by first | rfl | omega) (by omega) | exact Yld.indexB (sz := 1) (i) hS rfl rfl Try.underlying27 info3 rfl (by first | rfl | omega) (by omega))) (by decide) ?_; clear hS; intro aa hS
          refine dAg 19 rfl (by kernel_rfl) (by kernel_rfl) (by kernel_rfl) (fun _ _ _ h => h) hS rfl rfl hR0 (Yld.load1 hS rfl Try.underlying3 rfl (Rd.rec0 (k := i) (xs := tab S tm) (v := .int .i64 (tm i)) (by repeat (first | with_reducible exact Pk.here | with_reducible apply Pk.there)) (by intro _; rfl) (by rw [tab_len]; omega) (by rw [tab_get]; rfl))) (by decide) ?_; clear hS; intro aa hS
          refine dAg 20 rfl (by kernel_rfl) (by kernel_rfl) (by kernel_rfl) (fun _ _ _ h => h) hS rfl rfl hR0 (Yld.move hS rfl) (by decide) ?_; clear hS; intro aa hS
          refine dAg 21 rfl (by kernel_rfl) (by kernel_rfl) (by kernel_rfl) (fun _ _ _ h => h) hS rfl rfl hR0 (Yld.nilCheck hS rfl) (by decide) ?_; clear hS; intro aa hS
          refine dAg 22 rfl (by kernel_rfl) (by kernel_rfl) (by kernel_rfl) (fun _ _ _ h => h) hS rfl rfl hR0 (Yld.fieldAddr hS rfl 0 Try.underlying65 rfl rfl info27 (by decide)) (by decide) ?_; clear hS; intro aa hS
          refine dAg 23 rfl (by kernel_rfl) (by kernel_rfl) (by kernel_rfl) (fun _ _ _ h => h) hS rfl rfl hR0 (Yld.load1 hS rfl Try.underlying27 rfl (by first | exact Rd.blk (by repeat (first | with_reducible exact Pk.here | with_reducible apply Pk.there)) (by rfl) | exact Rd.rec (by repeat (first | with_reducible exact Pk.here | with_reducible apply Pk.there)) (by intro _; rfl) (by first | omega | (rw [tab_len]; omega)) rfl | exact Rd.rec0 (by repeat (first | with_reducible exact Pk.here | with_reducible apply Pk.there)) (by intro _; rfl) (by first | omega | (rw [tab_len]; omega)) rfl | exact Rd.flatJ (by repeat (first | with_reducible exact Pk.here | with_reducible apply Pk.there)) (by intro _; rfl) (by first | omega | (rw [tab_len]; omega)) rfl | exact Rd.flat0 (by repeat (first | with_reducible exact Pk.here | with_reducible apply Pk.there)) (by intro _; rfl) (by first | omega | (rw [tab_len]; omega)) rfl)) (by decide) ?_; clear hS; intro aa hS
          refine dAg 24 rfl (by kernel_rfl) (by kernel_rfl) (by kernel_rfl) (fun _ _ _ h => h) hS rfl rfl hR0 (Yld.move hS rfl) (by decide) ?_; clear hS; intro aa hS
          refine dAg 25 rfl (by kernel_rfl) (by kernel_rfl) (by kernel_rfl) (fun _ _ _ h => h) hS rfl rfl hR0 ((by first | exact Yld.indexH (sz := 1) (bz) hS rfl rfl Try.underlying27 info3 (by assumption) rfl (by first | rfl | omega) (by omega) | exact Yld.indexL (sz := 1) (bz) hS rfl rfl Try.underlying27 info3 (by repeat (first | with_reducible exact Pk.here | with_reducible apply Pk.there)) rfl (by first | rfl | omega) (by omega) | exact Yld.indexB (sz := 1) (bz) hS rfl rfl Try.underlying27 info3 rfl (by first | rfl | omega) (by omega))) (by decide) ?_; clear hS; intro aa hS
          refine dAg 26 rfl (by kernel_rfl) (by kernel_rfl) (by kernel_rfl) (fun _ _ _ h => h) hS rfl rfl hR0 (Yld.load1 hS rfl Try.underlying3 rfl (Rd.rec0 (k := bz) (xs := tab S tm) (v := .int .i64 (tm bz)) (by repeat (first | with_reducible exact Pk.here | with_reducible apply Pk.there)) (by intro _; rfl) (by rw [tab_len]; omega) (by rw [tab_get]; rfl))) (by decide) ?_; clear hS; intro aa hS
          refine dAg 27 rfl (by kernel_rfl) (by kernel_rfl) (by kernel_rfl) (fun _ _ _ h => h) hS rfl rfl hR0 (Yld.lss hS rfl rfl) (by decide) ?_; clear hS; intro aa hS
          refine dAg 28 rfl (by kernel_rfl) (by kernel_rfl) (by kernel_rfl) (fun _ _ _ h => h) hS rfl rfl hR0 (Yld.pickF hS rfl rfl) (by decide) ?_; clear hS; intro aa hS
          refine dA 29 rfl (by kernel_rfl) (by kernel_rfl) (by kernel_rfl) (fun _ _ _ h => h) hS hR0 (Yld.pickT hS rfl rfl) (by decide) ?_; clear hS; intro aa hS
          refine wpAnyH_done (by kernel_rfl) ?_ _; clear hR0
          refine hK443 _ _ ?_
          refine hS.splitB (t := 50) rfl ?_ ?_ <;> clear hS
          · intro hg hS
            refine condT hS rfl ?_
            refine wp_region_lit ?_
            refine sA hS hR (Yld.move hS rfl) (by decide) ?_; clear hS; intro aa hS
            refine sA hS hR (Yld.assign hS rfl) (by decide) ?_; clear hS; intro aa hS
            refine wpList_nil ?_
            refine hK442 _ _ ?_
            refine wp_region_lit ?_
            refine sA hS hR (Yld.move hS rfl) (by decide) ?_; clear hS; intro aa hS
            refine sA hS hR ((by first | exact Yld.add64 hS rfl rfl (by omega) | exact Yld.add hS rfl rfl)) (by decide) ?_; clear hS; intro aa hS
            refine sA hS hR (Yld.assign hS rfl) (by decide) ?_; clear hS; intro aa hS
            refine wpList_nil ?_
            
            refine ⟨(i + 1, (i : Int)), ?_, ?_, hS.le (Le.cons rfl (Le.cons rfl (Le.nilapp (Le.cons rfl (Le.cons rfl (Le.cons rfl (Le.nil _))))))), hR.sub (Ex.nilapp (by repeat (first | with_reducible exact Ex.refl | (with_reducible apply Ex.take; · repeat (first | with_reducible exact Pk.here | with_reducible apply Pk.there)) | with_reducible apply Ex.drop)))⟩
            · dsimp only; first | exact ⟨by omega, hI.2.take hti (.inl hz0)⟩ | exact ⟨by omega, hI.2.take hti (.inr ⟨_, rfl, by omega⟩)⟩ | exact ⟨by omega, hI.2.skip (.inr ⟨_, rfl, by omega⟩)⟩ | exact ⟨by omega, hI.2.skip (.inl (by omega))⟩
            · dsimp only; omega
          · intro hg hS
            refine condF hS rfl ?_
            refine wp_skip ?_
            refine hK442 _ _ ?_
            refine wp_region_lit ?_
            refine sA hS hR (Yld.move hS rfl) (by decide) ?_; clear hS; intro aa hS
            refine sA hS hR ((by first | exact Yld.add64 hS rfl rfl (by omega) | exact Yld.add hS rfl rfl)) (by decide) ?_; clear hS; intro aa hS
            refine sA hS hR (Yld.assign hS rfl) (by decide) ?_; clear hS; intro aa hS
            refine wpList_nil ?_
            
            refine ⟨(i + 1, (bz : Int)), ?_, ?_, hS.le (Le.cons rfl (Le.cons rfl (Le.nilapp (Le.cons rfl (Le.cons rfl (Le.cons rfl (Le.nil _))))))), hR.sub (Ex.nilapp (by repeat (first | with_reducible exact Ex.refl | (with_reducible apply Ex.take; · repeat (first | with_reducible exact Pk.here | with_reducible apply Pk.there)) | with_reducible apply Ex.drop)))⟩
            · dsimp only; first | exact ⟨by omega, hI.2.take hti (.inl hz0)⟩ | exact ⟨by omega, hI.2.take hti (.inr ⟨_, rfl, by omega⟩)⟩ | exact ⟨by omega, hI.2.skip (.inr ⟨_, rfl, by omega⟩)⟩ | exact ⟨by omega, hI.2.skip (.inl (by omega))⟩
            · dsimp only; omega
      · intro hg hS
        have hti := hg
        refine dSkip 10 rfl (by kernel_rfl) (by kernel_rfl) (by kernel_rfl) (fun _ _ _ h => h) hS rfl rfl rfl hR0 (by decide) ?_; clear hS; intro aa hS
        refine dSkip 11 rfl (by kernel_rfl) (by kernel_rfl) (by kernel_rfl) (fun _ _ _ h => h) hS rfl rfl rfl hR0 (by decide) ?_; clear hS; intro aa hS
        refine dSkip 12 rfl (by kernel_rfl) (by kernel_rfl) (by kernel_rfl) (fun _ _ _ h => h) hS rfl rfl rfl hR0 (by decide) ?_; clear hS; intro aa hS
        refine dSkipU 13 rfl (by kernel_rfl) (by kernel_rfl) (by kernel_rfl) (fun _ _ _ h => h) hS rfl rfl hR0 (by decide) ?_; clear hS; intro aa hS
        refine dSkipU 14 rfl (by kernel_rfl) (by kernel_rfl) (by kernel_rfl) (fun _ _ _ h => h) hS rfl rfl hR0 (by decide) ?_; clear hS; intro aa hS
        refine dSkipU 15 rfl (by kernel_rfl) (by kernel_rfl) (by kernel_rfl) (fun _ _ _ h => h) hS rfl rfl hR0 (by decide) ?_; clear hS; intro aa hS
        refine dSkipU 16 rfl (by kernel_rfl) (by kernel_rfl) (by kernel_rfl) (fun _ _ _ h => h) hS rfl rfl hR0 (by decide) ?_; clear hS; intro aa hS
        refine dSkipU 17 rfl (by kernel_rfl) (by kernel_rfl) (by kernel_rfl) (fun _ _ _ h => h) hS rfl rfl hR0 (by decide) ?_; clear hS; intro aa hS
        refine dSkipU 18 rfl (by kernel_rfl) (by kernel_rfl) (by kernel_rfl) (fun _ _ _ h => h) hS rfl rfl hR0 (by decide) ?_; clear hS; intro aa hS
        refine dSkipU 19 rfl (by kernel_rfl) (by kernel_rfl) (by kernel_rfl) (fun _ _ _ h => h) hS rfl rfl hR0 (by decide) ?_; clear hS; intro aa hS
        refine dSkipU 20 rfl (by kernel_rfl) (by kernel_rfl) (by kernel_rfl) (fun _ _ _ h => h) hS rfl rfl hR0 (by decide) ?_; clear hS; intro aa hS
        refine dSkipU 21 rfl (by kernel_rfl) (by kernel_rfl) (by kernel_rfl) (fun _ _ _ h => h) hS rfl rfl hR0 (by decide) ?_; clear hS; intro aa hS
        refine dSkipU 22 rfl (by kernel_rfl) (by kernel_rfl) (by kernel_rfl) (fun _ _ _ h => h) hS rfl rfl hR0 (by decide) ?_; clear hS; intro aa hS
        refine dSkipU 23 rfl (by kernel_rfl) (by kernel_rfl) (by kernel_rfl) (fun _ _ _ h => h) hS rfl rfl hR0 (by decide) ?_; clear hS; intro aa hS
        refine dSkipU 24 rfl (by kernel_rfl) (by kernel_rfl) (by kernel_rfl) (fun _ _ _ h => h) hS rfl rfl hR0 (by decide) ?_; clear hS; intro aa hS
        refine dSkipU 25 rfl (by kernel_rfl) (by kernel_rfl) (by kernel_rfl) (fun _ _ _ h => h) hS rfl rfl hR0 (by decide) ?_; clear hS; intro aa hS
        refine dSkipU 26 rfl (by kernel_rfl) (by kernel_rfl) (by kernel_rfl) (fun _ _ _ h => h) hS rfl rfl hR0 (by decide) ?_; clear hS; intro aa hS
        refine dSkipU 27 rfl (by kernel_rfl) (by kernel_rfl) (by kernel_rfl) (fun _ _ _ h => h) hS rfl rfl hR0 (by decide) ?_; clear hS; intro aa hS
        refine dSkip 28 rfl (by kernel_rfl) (by kernel_rfl) (by kernel_rfl) (fun _ _ _ h => h) hS rfl rfl rfl hR0 (by decide) ?_; clear hS; intro aa hS
        refine dA 29 rfl (by kernel_rfl) (by kernel_rfl) (by kernel_rfl) (fun _ _ _ h => h) hS hR0 (Yld.pickF hS rfl rfl) (by decide) ?_; clear hS; intro aa hS
        refine wpAnyH_done (by kernel_rfl) ?_ _; clear hR0
        refine hK443 _ _ ?_
        refine condF hS rfl ?_
        refine wp_skip ?_
        refine hK442 _ _ ?_
        refine wp_region_lit ?_
        refine sA hS hR (Yld.move hS rfl) (by decide) ?_; clear hS; intro aa hS
        refine sA hS hR ((by first | exact Yld.add64 hS rfl rfl (by omega) | exact Yld.add hS rfl rfl)) (by decide) ?_; clear hS; intro aa hS
        refine sA hS hR (Yld.assign hS rfl) (by decide) ?_; clear hS; intro aa hS
        refine wpList_nil ?_
        
        refine ⟨(i + 1, z), ?_, ?_, hS.le (Le.cons rfl (Le.cons rfl (Le.nilapp (Le.cons rfl (Le.cons rfl (Le.cons rfl (Le.nil _))))))), hR.sub (Ex.nilapp (by repeat (first | with_reducible exact Ex.refl | (with_reducible apply Ex.take; · repeat (first | with_reducible exact Pk.here | with_reducible apply Pk.there)) | with_reducible apply Ex.drop)))⟩
        · dsimp only; first | exact ⟨by omega, hI.2.take hti (.inl hz0)⟩ | exact ⟨by omega, hI.2.take hti (.inr ⟨_, rfl, by omega⟩)⟩ | exact ⟨by omega, hI.2.skip (.inr ⟨_, rfl, by omega⟩)⟩ | exact ⟨by omega, hI.2.skip (.inl (by omega))⟩
        · dsimp only; omega
    · intro hg hS
      obtain rfl : S = i := by omega
      refine condF hS rfl ?_
      refine wp_exit ?_
      refine hK437 _ _ ?_
      refine wp_seq_k ?_; intro K444 hK444
      refine wp_seq_k ?_; intro K445 hK445
      refine wp_region_lit ?_
      refine sA hS hR (Yld.move hS rfl) (by decide) ?_; clear hS; intro aa hS
      refine sA hS hR (Yld.lss hS rfl rfl) (by decide) ?_; clear hS; intro aa hS
      refine wpList_nil ?_
      refine hK445 _ _ ?_
      refine hS.splitB (t := 53) rfl ?_ ?_ <;> clear hS
      · intro hg hS
        have hj := hLS.stop (j := j) h0 (by rw [hF]; exact hJ) (by rw [hF]; rcases hI.2 with ⟨_, h4⟩ | ⟨y, h3, _⟩; exact h4; omega)
        rw [hF] at hj
        refine condT hS rfl ?_
        refine wp_seq_k ?_; intro K446 hK446
        refine wp_region_lit ?_
        refine sA hS hR (Yld.move hS rfl) (by decide) ?_; clear hS; intro aa hS
        refine sA hS hR (Yld.assign hS rfl) (by decide) ?_; clear hS; intro aa hS
        refine wpList_nil ?_
        refine hK446 _ _ ?_
        refine wp_ret ?_
        repeat (first | with_reducible refine thenR ?_ | with_reducible refine blockR ?_ | with_reducible refine scopeR ?_)
        refine ret1 (fn := Try.f41) (e := .ret) (.inl rfl) Try.results41 hS hR ⟨_, (.tmp rfl), ?_⟩
        subst hj
        rw [List.take_of_length_le (Nat.le_refl _)] at hR
        have h9 : Sep (rluA 65 3 b2 S tm now :: sls r0 (cst F).length c0 3 1 ((cst F).flatMap e1) :: l) _ := Sep.rluI (TR := 65) (TI := 3) (b2 := b2) (hR.sub (by repeat (first | with_reducible exact Ex.refl | (with_reducible apply Ex.take; · repeat (first | with_reducible exact Pk.here | with_reducible apply Pk.there)) | with_reducible apply Ex.drop)))
        rw [hF]
        exact ⟨r0, c0, by rw [List.take_of_length_le (Nat.le_refl _)], h9.swap⟩
      · intro hg hS
        obtain ⟨y, hzy, hyS, hy1, hy2⟩ : ∃ y : Nat, z = y ∧ y < S ∧ tm y > lastS F T t0 j ∧ ∀ x, x < S → tm x > lastS F T t0 j → tm y ≤ tm x := by
          rcases hI.2 with ⟨h3, _⟩ | h4
          · omega
          · exact h4
        obtain ⟨hjl, hjy⟩ := hLS.pick (j := j) h0 (by rw [hF]; exact hJ) hyS (by rw [hF]; exact hy1) (by rw [hF]; exact hy2)
        simp only [hF] at hjl hjy
        have hyT : tm y = T y := hLS.tm1 y (by have h9 : y ∈ F := by rw [← hjy]; exact List.getElem_mem hjl
                                               rw [← hF, List.mem_filter] at h9; exact h9.1)
        subst hzy
        have hfk := cst_len (l := F.take j)
        have hft : (F.take j).length ≤ F.length := by rw [List.length_take]; omega
        refine condF hS rfl ?_
        refine wp_skip ?_
        refine hK444 _ _ ?_
        refine wp_seq_k ?_; intro K447 hK447
        refine wp_region_lit ?_
        refine sA hS hR (Yld.move hS rfl) (by decide) ?_; clear hS; intro aa hS
        refine sA hS hR (Yld.move hS rfl) (by decide) ?_; clear hS; intro aa hS
        refine sB (BbuildSlice hS hR rfl (bls27_1_0 _) (by decide) ?_); clear hS hR; intro aa ww bb57 hS hR
        refine sB (BappendR (sz := 1) hS hR rfl rfl Try.underlying27 info3 rfl rfl (by rfl) (by repeat (first | with_reducible exact Pk.here | with_reducible apply Pk.there)) (XC.one ((y : Int)) (by repeat (first | with_reducible exact Pk.here | with_reducible apply Pk.there)) (by rfl) rfl) (by intro _; rfl) (by show (_ + _) * 8 ≤ _; first | omega | (rw [tab_len]; omega)) (by first | omega | (rw [tab_len]; omega)) (by first | rfl | (simp; done) | (simp; omega)) (by decide) ?_); clear hS hR; intro aa ww r58 c58 hS hR
        rw [cst_snoc, ← hjy, ← List.take_succ_eq_append_getElem hjl] at hS hR
        refine sA hS hR (Yld.assign hS rfl) (by decide) ?_; clear hS; intro aa hS
        refine wpList_nil ?_
        refine hK447 _ _ ?_
        refine wp_region_lit ?_
        refine sA hS hR (Yld.move hS rfl) (by decide) ?_; clear hS; intro aa hS
        refine sA hS hR (Yld.nilCheck hS rfl) (by decide) ?_; clear hS; intro aa hS
        refine sA hS hR (Yld.fieldAddr hS rfl 0 Try.underlying65 rfl rfl info27 (by decide)) (by decide) ?_; clear hS; intro aa hS
        refine sA hS hR (Yld.load1 hS rfl Try.underlying27 rfl (by first | exact Rd.blk (by repeat (first | with_reducible exact Pk.here | with_reducible apply Pk.there)) (by rfl) | exact Rd.rec (by repeat (first | with_reducible exact Pk.here | with_reducible apply Pk.there)) (by intro _; rfl) (by first | omega | (rw [tab_len]; omega)) rfl | exact Rd.rec0 (by repeat (first | with_reducible exact Pk.here | with_reducible apply Pk.there)) (by intro _; rfl) (by first | omega | (rw [tab_len]; omega)) rfl | exact Rd.flatJ (by repeat (first | with_reducible exact Pk.here | with_reducible apply Pk.there)) (by intro _; rfl) (by first | omega | (rw [tab_len]; omega)) rfl | exact Rd.flat0 (by repeat (first | with_reducible exact Pk.here | with_reducible apply Pk.there)) (by intro _; rfl) (by first | omega | (rw [tab_len]; omega)) rfl)) (by decide) ?_; clear hS; intro aa hS
        refine sA hS hR (Yld.move hS rfl) (by decide) ?_; clear hS; intro aa hS
        refine sA hS hR ((by first | exact Yld.indexH (sz := 1) (y) hS rfl rfl Try.underlying27 info3 (by assumption) rfl (by first | rfl | omega) (by omega) | exact Yld.indexL (sz := 1) (y) hS rfl rfl Try.underlying27 info3 (by repeat (first | with_reducible exact Pk.here | with_reducible apply Pk.there)) rfl (by first | rfl | omega) (by omega) | exact Yld.indexB (sz := 1) (y) hS rfl rfl Try.underlying27 info3 rfl (by first | rfl | omega) (by omega))) (by decide) ?_; clear hS; intro aa hS
        refine sA hS hR (Yld.load1 hS rfl Try.underlying3 rfl (Rd.rec0 (k := y) (xs := tab S tm) (v := .int .i64 (tm y)) (by repeat (first | with_reducible exact Pk.here | with_reducible apply Pk.there)) (by intro _; rfl) (by rw [tab_len]; omega) (by rw [tab_get]; rfl))) (by decide) ?_; clear hS; intro aa hS
        replace hS := hS.say (t := 65) (.int .i64 (lastS F T t0 (j + 1))) rfl (by rw [lastS_next hjl hjy, hyT])
        refine sA hS hR (Yld.assign hS rfl) (by decide) ?_; clear hS; intro aa hS
        refine wpList_nil ?_
        
        refine ⟨(j + 1, _, _), ?_, ?_, hS.le (Le.cons rfl (Le.cons rfl (Le.nilapp (Le.cons rfl (Le.nil _))))), hR.sub (Ex.take (by repeat (first | with_reducible exact Pk.here | with_reducible apply Pk.there)) (Ex.nilapp (by repeat (first | with_reducible exact Ex.refl | (with_reducible apply Ex.take; · repeat (first | with_reducible exact Pk.here | with_reducible apply Pk.there)) | with_reducible apply Ex.drop))))⟩
        · dsimp only; omega
        · dsimp only; omega
theorem USince_ok {S b2 : Nat} {ord : List Nat} {T tm : Nat → Int} {now : Int} {l : List HP} {w : World} (h1 : 1 ≤ S) (h2 : S ≤ 8192) {t : Int} (hLS : LS S ord T now tm) (hR : Sep (rluA 65 3 b2 S tm now :: l) w) : CallR Try.prog 41 [.pointer (some ⟨b2, 0, none⟩), .int .i64 t] w (fun v w' => ∃ r c, v = .slice r (cst (ord.filter fun a => decide (T a > t))).length c ∧ Sep (sls r (cst (ord.filter fun a => decide (T a > t))).length c 3 1 ((cst (ord.filter fun a => decide (T a > t))).flatMap e1) :: rluA 65 3 b2 S tm now :: l) w') := by
  have h := USince0_ok h1 h2 (t := t) (t0 := max t 0) hLS rfl hR
  rw [hLS.since] at h
  exact h
end Go.Proofs.Ytojeibjlkbffcaa.Sx
