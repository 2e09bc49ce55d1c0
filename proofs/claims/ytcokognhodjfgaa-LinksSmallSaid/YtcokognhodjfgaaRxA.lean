/-
  
-/
import Derived.Test.YtcokognhodjfgaaLxD
import Derived.Test.YtcokognhodjfgaaLs2
namespace Go.Proofs.Ytcokognhodjfgaa.Sx
open Go
set_option linter.unusedVariables false
set_option linter.unusedSimpArgs false

theorem info26 : Try.prog.info? 26 = some Try.t26 := by kernel_rfl
theorem bld70_0_1 (x0 : Int) (x1_a : Option Addr) (x1_n x1_c : Nat) (w : World) : (Instr.build 70 [(0, .int .i64 x0), (1, .slice x1_a x1_n x1_c)].toArray).run Try.prog w = .ok (.agg [.int .i64 x0, .slice x1_a x1_n x1_c].toArray) w := by kernel_rfl
theorem bls27_0_  (w : World) : (Instr.buildSlice 27 0 [].toArray).run Try.prog w = .ok (.slice (some ⟨w.heap.size, 0, none⟩) 0 0) (w.alloc (.cells ([] : List Value).toArray 3)) := by kernel_rfl

abbrev refL (TR TS TI b2 S : Nat) (x : List Row × Option Addr × Nat) : List HP := [blk b2 [.int .i64 (S : Int), .slice x.2.1 x.1.length x.2.2] TR, sls x.2.1 x.1.length x.2.2 TS 1 (x.1.flatMap eR), rowsH TI x.1]
def refA (TR TS TI b2 S n : Nat) (L : Nat → List Nat) : HP := box (fun x : List Row × Option Addr × Nat => RowsOf n L x.1) (refL TR TS TI b2 S)
theorem Sep.refE {TR TS TI b2 S n : Nat} {L : Nat → List Nat} {l : List HP} {w : World} (h : Sep (refA TR TS TI b2 S n L :: l) w) : ∃ ys r2 c2, RowsOf n L ys ∧ Sep (blk b2 [.int .i64 (S : Int), .slice r2 ys.length c2] TR :: sls r2 ys.length c2 TS 1 (ys.flatMap eR) :: rowsH TI ys :: l) w := by
  obtain ⟨x, h1, h2⟩ := h.boxE
  exact ⟨x.1, x.2.1, x.2.2, h1, h2⟩
theorem Sep.refI {TR TS TI b2 S n m : Nat} {L L' : Nat → List Nat} {ys : List Row} {r2 : Option Addr} {c2 : Nat} {l : List HP} {w : World} (h1 : RowsOf n L ys) (e : L = L') (hm : m = ys.length) (h : Sep (blk b2 [.int .i64 (S : Int), .slice r2 m c2] TR :: sls r2 m c2 TS 1 (ys.flatMap eR) :: rowsH TI ys :: l) w) : Sep (refA TR TS TI b2 S n L' :: l) w := by
  subst e hm
  exact Sep.boxI (ys, r2, c2) h1 h
set_option maxRecDepth 20000 in
theorem RRight_ok {s n : Int} {l : List HP} {w : World} (hR : Sep l w) : CallR Try.prog 20 [.int .i64 s, .int .i64 n] w (fun v w' => v = .bool (decide (1 ≤ s ∧ s ≤ 8192 ∧ 1 ≤ n ∧ n ≤ 4096)) ∧ Sep l w') := by
  refine enter Try.func20 rfl Try.ntmps20 (Nat.le_of_ble_eq_true rfl) ?_; intro aa hS
  refine wp_seq_k ?_; intro K428 hK428
  refine wp_region_lit ?_
  refine sA hS hR (Yld.assign hS rfl) (by decide) ?_; clear hS; intro aa hS
  refine wpList_nil ?_
  refine hK428 _ _ ?_
  refine wp_seq_k ?_; intro K429 hK429
  refine wp_region_lit ?_
  refine sA hS hR (Yld.move hS rfl) (by decide) ?_; clear hS; intro aa hS
  refine sA hS hR (Yld.geq hS rfl rfl) (by decide) ?_; clear hS; intro aa hS
  refine sA hS hR (Yld.move hS rfl) (by decide) ?_; clear hS; intro aa hS
  refine hS.splitB (t := 7) rfl ?_ ?_ <;> clear hS
  · intro hg hS
    refine sAg hS hR rfl rfl (Yld.move hS rfl) (by decide) ?_; clear hS; intro aa hS
    refine sAg hS hR rfl rfl (Yld.leq hS rfl rfl) (by decide) ?_; clear hS; intro aa hS
    refine sA hS hR (Yld.pickT hS rfl rfl) (by decide) ?_; clear hS; intro aa hS
    refine sA hS hR (Yld.move hS rfl) (by decide) ?_; clear hS; intro aa hS
    refine hS.splitB (t := 11) rfl ?_ ?_ <;> clear hS
    · intro hg hS
      refine sAg hS hR rfl rfl (Yld.move hS rfl) (by decide) ?_; clear hS; intro aa hS
      refine sAg hS hR rfl rfl (Yld.geq hS rfl rfl) (by decide) ?_; clear hS; intro aa hS
      refine sA hS hR (Yld.pickT hS rfl rfl) (by decide) ?_; clear hS; intro aa hS
      refine sA hS hR (Yld.move hS rfl) (by decide) ?_; clear hS; intro aa hS
      refine hS.splitB (t := 15) rfl ?_ ?_ <;> clear hS
      · intro hg hS
        refine sAg hS hR rfl rfl (Yld.move hS rfl) (by decide) ?_; clear hS; intro aa hS
        refine sAg hS hR rfl rfl (Yld.leq hS rfl rfl) (by decide) ?_; clear hS; intro aa hS
        refine sA hS hR (Yld.pickT hS rfl rfl) (by decide) ?_; clear hS; intro aa hS
        refine sA hS hR (Yld.assign hS rfl) (by decide) ?_; clear hS; intro aa hS
        refine wpList_nil ?_
        refine hK429 _ _ ?_
        refine wp_ret ?_
        repeat (first | with_reducible refine thenR ?_ | with_reducible refine blockR ?_ | with_reducible refine scopeR ?_)
        refine ret1 (fn := Try.f20) (e := .ret) (.inl rfl) Try.results20 hS hR ⟨_, (.tmp rfl), ?_⟩
        refine ⟨?_, (hR.sub (by repeat (first | with_reducible exact Ex.refl | (with_reducible apply Ex.take; · repeat (first | with_reducible exact Pk.here | with_reducible apply Pk.there)) | with_reducible apply Ex.drop)))⟩
        first | exact dec_iff (by constructor <;> intro h <;> omega) | exact dec_no (by omega)| exact dec_yes (by omega)
      · intro hg hS
        refine sSkip hS rfl rfl rfl (by decide) ?_; clear hS; intro aa hS
        refine sSkip hS rfl rfl rfl (by decide) ?_; clear hS; intro aa hS
        refine sA hS hR (Yld.pickF hS rfl rfl) (by decide) ?_; clear hS; intro aa hS
        refine sA hS hR (Yld.assign hS rfl) (by decide) ?_; clear hS; intro aa hS
        refine wpList_nil ?_
        refine hK429 _ _ ?_
        refine wp_ret ?_
        repeat (first | with_reducible refine thenR ?_ | with_reducible refine blockR ?_ | with_reducible refine scopeR ?_)
        refine ret1 (fn := Try.f20) (e := .ret) (.inl rfl) Try.results20 hS hR ⟨_, (.tmp rfl), ?_⟩
        refine ⟨?_, (hR.sub (by repeat (first | with_reducible exact Ex.refl | (with_reducible apply Ex.take; · repeat (first | with_reducible exact Pk.here | with_reducible apply Pk.there)) | with_reducible apply Ex.drop)))⟩
        first | exact dec_iff (by constructor <;> intro h <;> omega) | exact dec_no (by omega)| exact dec_yes (by omega)
    · intro hg hS
      refine sSkip hS rfl rfl rfl (by decide) ?_; clear hS; intro aa hS
      refine sSkip hS rfl rfl rfl (by decide) ?_; clear hS; intro aa hS
      refine sA hS hR (Yld.pickF hS rfl rfl) (by decide) ?_; clear hS; intro aa hS
      refine sA hS hR (Yld.move hS rfl) (by decide) ?_; clear hS; intro aa hS
      refine sSkip hS rfl rfl rfl (by decide) ?_; clear hS; intro aa hS
      refine sSkip hS rfl rfl rfl (by decide) ?_; clear hS; intro aa hS
      refine sA hS hR (Yld.pickF hS rfl rfl) (by decide) ?_; clear hS; intro aa hS
      refine sA hS hR (Yld.assign hS rfl) (by decide) ?_; clear hS; intro aa hS
      refine wpList_nil ?_
      refine hK429 _ _ ?_
      refine wp_ret ?_
      repeat (first | with_reducible refine thenR ?_ | with_reducible refine blockR ?_ | with_reducible refine scopeR ?_)
      refine ret1 (fn := Try.f20) (e := .ret) (.inl rfl) Try.results20 hS hR ⟨_, (.tmp rfl), ?_⟩
      refine ⟨?_, (hR.sub (by repeat (first | with_reducible exact Ex.refl | (with_reducible apply Ex.take; · repeat (first | with_reducible exact Pk.here | with_reducible apply Pk.there)) | with_reducible apply Ex.drop)))⟩
      first | exact dec_iff (by constructor <;> intro h <;> omega) | exact dec_no (by omega)| exact dec_yes (by omega)
  · intro hg hS
    refine sSkip hS rfl rfl rfl (by decide) ?_; clear hS; intro aa hS
    refine sSkip hS rfl rfl rfl (by decide) ?_; clear hS; intro aa hS
    refine sA hS hR (Yld.pickF hS rfl rfl) (by decide) ?_; clear hS; intro aa hS
    refine sA hS hR (Yld.move hS rfl) (by decide) ?_; clear hS; intro aa hS
    refine sSkip hS rfl rfl rfl (by decide) ?_; clear hS; intro aa hS
    refine sSkip hS rfl rfl rfl (by decide) ?_; clear hS; intro aa hS
    refine sA hS hR (Yld.pickF hS rfl rfl) (by decide) ?_; clear hS; intro aa hS
    refine sA hS hR (Yld.move hS rfl) (by decide) ?_; clear hS; intro aa hS
    refine sSkip hS rfl rfl rfl (by decide) ?_; clear hS; intro aa hS
    refine sSkip hS rfl rfl rfl (by decide) ?_; clear hS; intro aa hS
    refine sA hS hR (Yld.pickF hS rfl rfl) (by decide) ?_; clear hS; intro aa hS
    refine sA hS hR (Yld.assign hS rfl) (by decide) ?_; clear hS; intro aa hS
    refine wpList_nil ?_
    refine hK429 _ _ ?_
    refine wp_ret ?_
    repeat (first | with_reducible refine thenR ?_ | with_reducible refine blockR ?_ | with_reducible refine scopeR ?_)
    refine ret1 (fn := Try.f20) (e := .ret) (.inl rfl) Try.results20 hS hR ⟨_, (.tmp rfl), ?_⟩
    refine ⟨?_, (hR.sub (by repeat (first | with_reducible exact Ex.refl | (with_reducible apply Ex.take; · repeat (first | with_reducible exact Pk.here | with_reducible apply Pk.there)) | with_reducible apply Ex.drop)))⟩
    first | exact dec_iff (by constructor <;> intro h <;> omega) | exact dec_no (by omega)| exact dec_yes (by omega)
set_option maxRecDepth 20000 in
theorem RNew_ok {S n : Nat} {l : List HP} {w : World} (hR : Sep l w) (h1 : n ≤ 4096) : CallR Try.prog 21 [.int .i64 (S : Int), .int .i64 (n : Int)] w (fun v w' => ∃ b2, v = .pointer (some ⟨b2, 0, none⟩) ∧ Sep (refA 70 27 3 b2 S n (fun _ => []) :: l) w') := by
  refine enter Try.func21 rfl Try.ntmps21 (Nat.le_of_ble_eq_true rfl) ?_; intro aa hS
  refine wp_seq_k ?_; intro K430 hK430
  refine wp_region_lit ?_
  refine sA hS hR (Yld.assign hS rfl) (by decide) ?_; clear hS; intro aa hS
  refine wpList_nil ?_
  refine hK430 _ _ ?_
  refine wp_seq_k ?_; intro K431 hK431
  refine wp_region_lit ?_
  refine sA hS hR (Yld.move hS rfl) (by decide) ?_; clear hS; intro aa hS
  refine sA hS hR (Yld.move hS rfl) (by decide) ?_; clear hS; intro aa hS
  refine sB (Bmake (zc := [.slice none 0 0]) hS hR rfl rfl Try.underlying26 info27 rfl (by rfl) (by rfl) (by decide) (by omega) (by show ((24 : Nat) : Int) * _ ≤ _; omega) (by omega) (by decide) ?_); clear hS hR; intro aa ww bb7 hS hR
  rw [show ((n : Int)).toNat = n from by omega] at hS hR
  replace hR := hR.pk (r := blk bb7 _ _) (by repeat (first | with_reducible exact Pk.here | with_reducible apply Pk.there))
  rw [zeros_rows] at hR
  replace hR := Sep.toRecs (m := n) (sz := 1) (enc := eR) (List.replicate n (((none, 0), []) : Row)) hR rfl (by intro _; rfl) (by simp)
  refine sA hS hR (Yld.build hS rfl (bld70_0_1 _ _ _ _)) (by decide) ?_; clear hS; intro aa hS
  refine sB (Bbox hS hR rfl (by rfl) (by decide) ?_); clear hS hR; intro aa ww bb9 hS hR
  refine sA hS hR (Yld.assign hS rfl) (by decide) ?_; clear hS; intro aa hS
  refine wpList_nil ?_
  refine hK431 _ _ ?_
  refine wp_ret ?_
  repeat (first | with_reducible refine thenR ?_ | with_reducible refine blockR ?_ | with_reducible refine scopeR ?_)
  refine ret1 (fn := Try.f21) (e := .ret) (.inl rfl) Try.results21 hS hR ⟨_, (.tmp rfl), ?_⟩
  replace hR := hR.rowsNew (TI := 3) (n := n)
  exact ⟨_, rfl, Sep.refI (m := n) (ys := List.replicate n (((none, 0), []) : Row)) (RowsOf.new (n := n)) rfl (by simp) (hR.sub (by repeat (first | with_reducible exact Ex.refl | (with_reducible apply Ex.take; · repeat (first | with_reducible exact Pk.here | with_reducible apply Pk.there)) | with_reducible apply Ex.drop)))⟩
set_option maxHeartbeats 1000000 in
set_option maxRecDepth 20000 in
theorem ROf_ok {S n b2 c2 : Nat} {r2 : Option Addr} {L : Nat → List Nat} {ys : List Row} {l : List HP} {w : World} (hys : RowsOf n L ys) (hn : 1 ≤ n ∧ n ≤ 4096) (hL : ∀ k, k < n → (L k).length ≤ 8192) {v0 : Int} (hR : Sep (blk b2 [.int .i64 (S : Int), .slice r2 ys.length c2] 70 :: sls r2 ys.length c2 27 1 (ys.flatMap eR) :: rowsH 3 ys :: l) w) : CallR Try.prog 40 [.pointer (some ⟨b2, 0, none⟩), .int .i64 v0] w (fun v w' => v = posV n L v0 ∧ Sep (blk b2 [.int .i64 (S : Int), .slice r2 ys.length c2] 70 :: sls r2 ys.length c2 27 1 (ys.flatMap eR) :: rowsH 3 ys :: l) w') := by
  refine enter Try.func40 rfl Try.ntmps40 (Nat.le_of_ble_eq_true rfl) ?_; intro aa hS
  have hyl := hys.len
  have hb2 : Bk r2 := (hR.pk (r := sls r2 _ _ _ _ _) (by repeat (first | with_reducible exact Pk.here | with_reducible apply Pk.there))).bk (by omega)
  refine wp_seq_k ?_; intro K432 hK432
  refine wp_region_lit ?_
  refine sA hS hR (Yld.assign hS rfl) (by decide) ?_; clear hS; intro aa hS
  refine sA hS hR (Yld.assign hS rfl) (by decide) ?_; clear hS; intro aa hS
  refine wpList_nil ?_
  refine hK432 _ _ ?_
  refine wp_seq_k ?_; intro K433 hK433
  refine wp_seq_k ?_; intro K434 hK434
  refine wp_region_lit ?_
  refine sA hS hR (Yld.assign hS rfl) (by decide) ?_; clear hS; intro aa hS
  refine wpList_nil ?_
  refine hK434 _ _ ?_
  refine wp_block ?_
  refine loopI (X := Nat) [(0, _), (1, _)] (fun x => [(6, .int .i64 (x : Int))]) (fun x => []) _ (fun x => x ≤ n ∧ ∀ j, j < x → v0 ∉ cst (L j)) (fun x => n - x) 0 ⟨Nat.zero_le _, fun j h => by omega⟩ (hS.le (Le.cons rfl (Le.nilapp (Le.cons rfl (Le.cons rfl (Le.nil _)))))) hR ?_
  clear hS hR; rintro i aa ww hI hS hR; dsimp only [List.cons_append, List.nil_append] at hI hS hR
  have hI0 := hI
  refine wp_seq_k ?_; intro K436 hK436
  refine wp_seq_k ?_; intro K437 hK437
  refine wp_region_lit ?_
  refine sA hS hR (Yld.move hS rfl) (by decide) ?_; clear hS; intro aa hS
  refine sA hS hR (Yld.move hS rfl) (by decide) ?_; clear hS; intro aa hS
  refine sA hS hR (Yld.nilCheck hS rfl) (by decide) ?_; clear hS; intro aa hS
  refine sA hS hR (Yld.fieldAddr hS rfl 1 Try.underlying70 rfl rfl info26 (by decide)) (by decide) ?_; clear hS; intro aa hS
  refine sA hS hR (Yld.load1 hS rfl Try.underlying26 rfl (by first | exact Rd.blk (by repeat (first | with_reducible exact Pk.here | with_reducible apply Pk.there)) (by rfl) | exact Rd.rec (by repeat (first | with_reducible exact Pk.here | with_reducible apply Pk.there)) (by intro _; rfl) (by omega) rfl | exact Rd.rec0 (by repeat (first | with_reducible exact Pk.here | with_reducible apply Pk.there)) (by intro _; rfl) (by omega) rfl | exact Rd.flatJ (by repeat (first | with_reducible exact Pk.here | with_reducible apply Pk.there)) (by intro _; rfl) (by omega) rfl | exact Rd.flat0 (by repeat (first | with_reducible exact Pk.here | with_reducible apply Pk.there)) (by intro _; rfl) (by omega) rfl)) (by decide) ?_; clear hS; intro aa hS
  refine sA hS hR (Yld.len hS rfl Try.underlying26) (by decide) ?_; clear hS; intro aa hS
  refine sA hS hR (Yld.lss hS rfl rfl) (by decide) ?_; clear hS; intro aa hS
  refine wpList_nil ?_
  refine hK437 _ _ ?_
  refine hS.splitB (t := 14) rfl ?_ ?_ <;> clear hS
  · intro hg hS
    have hin : i < n := by omega
    obtain ⟨rr, cr, hrow⟩ := hys.get (k := i) (by omega)
    obtain ⟨zs, hzs⟩ : ∃ z, cst (L i) = z := ⟨_, rfl⟩
    rw [hzs] at hrow
    have hzl : zs.length ≤ 8192 := by rw [← hzs, cst_len]; exact hL i hin
    have hs := hR.intsRow (TI := 3) (by repeat (first | with_reducible exact Pk.here | with_reducible apply Pk.there)) hrow
    refine condT hS rfl ?_
    refine wp_skip ?_
    refine hK436 _ _ ?_
    refine wp_seq_k ?_; intro K438 hK438
    refine wp_block ?_
    refine wp_seq_k ?_; intro K439 hK439
    refine wp_region_lit ?_
    refine sA hS hR (Yld.assign hS rfl) (by decide) ?_; clear hS; intro aa hS
    refine wpList_nil ?_
    refine hK439 _ _ ?_
    refine wp_block ?_
    refine loopI (X := Nat) [(0, _), (1, _), (6, _), (8, _), (9, _), (10, _), (11, _), (12, _), (13, _), (14, _)] (fun x => [(7, .int .i64 (x : Int))]) (fun x => []) _ (fun x => x ≤ zs.length ∧ v0 ∉ zs.take x) (fun x => zs.length - x) 0 ⟨Nat.zero_le _, by simp⟩ (hS.le (Le.cons rfl (Le.nilapp (Le.cons rfl (Le.cons rfl (Le.cons rfl (Le.cons rfl (Le.cons rfl (Le.cons rfl (Le.cons rfl (Le.cons rfl (Le.cons rfl (Le.cons rfl (Le.nil _)))))))))))))) hR ?_
    clear hS hR; rintro k aa ww hI hS hR; dsimp only [List.cons_append, List.nil_append] at hI hS hR
    refine wp_seq_k ?_; intro K441 hK441
    refine wp_seq_k ?_; intro K442 hK442
    refine wp_region_lit ?_
    refine sA hS hR (Yld.move hS rfl) (by decide) ?_; clear hS; intro aa hS
    refine sA hS hR (Yld.move hS rfl) (by decide) ?_; clear hS; intro aa hS
    refine sA hS hR (Yld.nilCheck hS rfl) (by decide) ?_; clear hS; intro aa hS
    refine sA hS hR (Yld.fieldAddr hS rfl 1 Try.underlying70 rfl rfl info26 (by decide)) (by decide) ?_; clear hS; intro aa hS
    refine sA hS hR (Yld.load1 hS rfl Try.underlying26 rfl (by first | exact Rd.blk (by repeat (first | with_reducible exact Pk.here | with_reducible apply Pk.there)) (by rfl) | exact Rd.rec (by repeat (first | with_reducible exact Pk.here | with_reducible apply Pk.there)) (by intro _; rfl) (by omega) rfl | exact Rd.rec0 (by repeat (first | with_reducible exact Pk.here | with_reducible apply Pk.there)) (by intro _; rfl) (by omega) rfl | exact Rd.flatJ (by repeat (first | with_reducible exact Pk.here | with_reducible apply Pk.there)) (by intro _; rfl) (by omega) rfl | exact Rd.flat0 (by repeat (first | with_reducible exact Pk.here | with_reducible apply Pk.there)) (by intro _; rfl) (by omega) rfl)) (by decide) ?_; clear hS; intro aa hS
    refine sA hS hR (Yld.move hS rfl) (by decide) ?_; clear hS; intro aa hS
    refine sA hS hR ((by first | exact Yld.indexH (sz := 1) (i) hS rfl rfl Try.underlying26 info27 (by assumption) rfl (by first | rfl | omega) (by omega) | exact Yld.indexL (sz := 1) (i) hS rfl rfl Try.underlying26 info27 (by repeat (first | with_reducible exact Pk.here | with_reducible apply Pk.there)) rfl (by first | rfl | omega) (by omega) | exact Yld.indexB (sz := 1) (i) hS rfl rfl Try.underlying26 info27 rfl (by first | rfl | omega) (by omega))) (by decide) ?_; clear hS; intro aa hS
    refine sA hS hR (Yld.load1 hS rfl Try.underlying27 rfl (Rd.rec0 (k := i) (xs := ys) (v := .slice rr zs.length cr) (by repeat (first | with_reducible exact Pk.here | with_reducible apply Pk.there)) (by intro _; rfl) (by omega) (by rw [(List.getElem?_eq_some_iff.1 hrow).2]; rfl))) (by decide) ?_; clear hS; intro aa hS
    refine sA hS hR (Yld.len hS rfl Try.underlying27) (by decide) ?_; clear hS; intro aa hS
    refine sA hS hR (Yld.lss hS rfl rfl) (by decide) ?_; clear hS; intro aa hS
    refine wpList_nil ?_
    refine hK442 _ _ ?_
    refine hS.splitB (t := 26) rfl ?_ ?_ <;> clear hS
    · intro hg hS
      have hkz : k < zs.length := by omega
      obtain ⟨b1, i1, hq1, hr1⟩ := hs (by dsimp only; omega)
      dsimp only at hq1 hr1
      refine condT hS rfl ?_
      refine wp_skip ?_
      refine hK441 _ _ ?_
      refine wp_seq_k ?_; intro K443 hK443
      refine wp_block ?_
      refine wp_seq_k ?_; intro K444 hK444
      refine wp_region_lit ?_
      refine sA hS hR (Yld.move hS rfl) (by decide) ?_; clear hS; intro aa hS
      refine sA hS hR (Yld.nilCheck hS rfl) (by decide) ?_; clear hS; intro aa hS
      refine sA hS hR (Yld.fieldAddr hS rfl 1 Try.underlying70 rfl rfl info26 (by decide)) (by decide) ?_; clear hS; intro aa hS
      refine sA hS hR (Yld.load1 hS rfl Try.underlying26 rfl (by first | exact Rd.blk (by repeat (first | with_reducible exact Pk.here | with_reducible apply Pk.there)) (by rfl) | exact Rd.rec (by repeat (first | with_reducible exact Pk.here | with_reducible apply Pk.there)) (by intro _; rfl) (by omega) rfl | exact Rd.rec0 (by repeat (first | with_reducible exact Pk.here | with_reducible apply Pk.there)) (by intro _; rfl) (by omega) rfl | exact Rd.flatJ (by repeat (first | with_reducible exact Pk.here | with_reducible apply Pk.there)) (by intro _; rfl) (by omega) rfl | exact Rd.flat0 (by repeat (first | with_reducible exact Pk.here | with_reducible apply Pk.there)) (by intro _; rfl) (by omega) rfl)) (by decide) ?_; clear hS; intro aa hS
      refine sA hS hR (Yld.move hS rfl) (by decide) ?_; clear hS; intro aa hS
      refine sA hS hR ((by first | exact Yld.indexH (sz := 1) (i) hS rfl rfl Try.underlying26 info27 (by assumption) rfl (by first | rfl | omega) (by omega) | exact Yld.indexL (sz := 1) (i) hS rfl rfl Try.underlying26 info27 (by repeat (first | with_reducible exact Pk.here | with_reducible apply Pk.there)) rfl (by first | rfl | omega) (by omega) | exact Yld.indexB (sz := 1) (i) hS rfl rfl Try.underlying26 info27 rfl (by first | rfl | omega) (by omega))) (by decide) ?_; clear hS; intro aa hS
      refine sA hS hR (Yld.load1 hS rfl Try.underlying27 rfl (Rd.rec0 (k := i) (xs := ys) (v := .slice rr zs.length cr) (by repeat (first | with_reducible exact Pk.here | with_reducible apply Pk.there)) (by intro _; rfl) (by omega) (by rw [(List.getElem?_eq_some_iff.1 hrow).2]; rfl))) (by decide) ?_; clear hS; intro aa hS
      rw [hq1] at hS
      refine sA hS hR (Yld.move hS rfl) (by decide) ?_; clear hS; intro aa hS
      refine sA hS hR ((by first | exact Yld.indexL (sz := 1) _ hS rfl rfl Try.underlying27 info3 (by repeat (first | with_reducible exact Pk.here | with_reducible apply Pk.there)) rfl rfl (by omega) | exact Yld.indexB (sz := 1) _ hS rfl rfl Try.underlying27 info3 rfl rfl (by omega) | exact Yld.indexSlice hS rfl rfl Try.underlying27 info3 (by omega) (by omega))) (by decide) ?_; clear hS; intro aa hS
      refine sA hS hR (Yld.load1 hS rfl Try.underlying3 rfl ((hr1 k hkz).at (by show i1 + k * 1 = _; omega))) (by decide) ?_; clear hS; intro aa hS
      refine sA hS hR (Yld.move hS rfl) (by decide) ?_; clear hS; intro aa hS
      refine sA hS hR (Yld.eql hS rfl rfl) (by decide) ?_; clear hS; intro aa hS
      refine wpList_nil ?_
      refine hK444 _ _ ?_
      refine hS.splitB (t := 40) rfl ?_ ?_ <;> clear hS
      · intro hg hS
        have hpos : posV n L v0 = .tuple [.int .i64 (i : Int), .int .i64 (k : Int)].toArray := by
          rw [posV, ofI_some hin (by rw [hzs, ← hg]; exact List.getElem_mem hkz) hI0.2]
          dsimp only
          rw [hzs, idxOf_at hkz hg hI.2]
        refine condT hS rfl ?_
        refine wp_seq_k ?_; intro K445 hK445
        refine wp_region_lit ?_
        refine sA hS hR (Yld.move hS rfl) (by decide) ?_; clear hS; intro aa hS
        refine sA hS hR (Yld.move hS rfl) (by decide) ?_; clear hS; intro aa hS
        refine sA hS hR (Yld.assign hS rfl) (by decide) ?_; clear hS; intro aa hS
        refine sA hS hR (Yld.assign hS rfl) (by decide) ?_; clear hS; intro aa hS
        refine wpList_nil ?_
        refine hK445 _ _ ?_
        refine wp_ret ?_
        repeat (first | with_reducible refine thenR ?_ | with_reducible refine blockR ?_ | with_reducible refine scopeR ?_)
        refine retN (fn := Try.f40) (e := .ret) (.inl rfl) Try.results40 hS hR ⟨_, .cons (.tmp rfl) (.cons (.tmp rfl) (.nil)), rfl, ?_⟩
        exact ⟨hpos.symm, (hR.sub (by repeat (first | with_reducible exact Ex.refl | (with_reducible apply Ex.take; · repeat (first | with_reducible exact Pk.here | with_reducible apply Pk.there)) | with_reducible apply Ex.drop)))⟩
      · intro hg hS
        refine condF hS rfl ?_
        refine wp_skip ?_
        refine hK443 _ _ ?_
        refine wp_region_lit ?_
        refine sA hS hR (Yld.move hS rfl) (by decide) ?_; clear hS; intro aa hS
        refine sA hS hR ((by first | exact Yld.add64 hS rfl rfl (by omega) | exact Yld.add hS rfl rfl)) (by decide) ?_; clear hS; intro aa hS
        refine sA hS hR (Yld.assign hS rfl) (by decide) ?_; clear hS; intro aa hS
        refine wpList_nil ?_
        
        refine ⟨k + 1, ?_, ?_, hS.le (Le.cons rfl (Le.nilapp (Le.cons rfl (Le.cons rfl (Le.cons rfl (Le.cons rfl (Le.cons rfl (Le.cons rfl (Le.cons rfl (Le.cons rfl (Le.cons rfl (Le.cons rfl (Le.nil _))))))))))))), hR.sub (Ex.nilapp (by repeat (first | with_reducible exact Ex.refl | (with_reducible apply Ex.take; · repeat (first | with_reducible exact Pk.here | with_reducible apply Pk.there)) | with_reducible apply Ex.drop)))⟩
        · exact ⟨by omega, take_no hkz hg hI.2⟩
        · omega
    · intro hg hS
      have hkz : k = zs.length := by omega
      refine condF hS rfl ?_
      refine wp_exit ?_
      refine hK438 _ _ ?_
      refine wp_region_lit ?_
      refine sA hS hR (Yld.move hS rfl) (by decide) ?_; clear hS; intro aa hS
      refine sA hS hR ((by first | exact Yld.add64 hS rfl rfl (by omega) | exact Yld.add hS rfl rfl)) (by decide) ?_; clear hS; intro aa hS
      refine sA hS hR (Yld.assign hS rfl) (by decide) ?_; clear hS; intro aa hS
      refine wpList_nil ?_
      
      refine ⟨i + 1, ?_, ?_, hS.le (Le.cons rfl (Le.nilapp (Le.cons rfl (Le.cons rfl (Le.nil _))))), hR.sub (Ex.nilapp (by repeat (first | with_reducible exact Ex.refl | (with_reducible apply Ex.take; · repeat (first | with_reducible exact Pk.here | with_reducible apply Pk.there)) | with_reducible apply Ex.drop)))⟩
      · exact ⟨by omega, fun j hj => by
          by_cases e : j = i
          · rw [e, hzs]; have h9 := hI.2; rw [hkz, List.take_of_length_le (Nat.le_refl _)] at h9; exact h9
          · exact hI0.2 j (by omega)⟩
      · omega
  · intro hg hS
    have hpos : posV n L v0 = .tuple [.int .i64 (-1), .int .i64 (-1)].toArray := by
      rw [posV, ofI_none fun j hj => hI.2 j (by omega)]
    refine condF hS rfl ?_
    refine wp_exit ?_
    refine hK433 _ _ ?_
    refine wp_seq_k ?_; intro K446 hK446
    refine wp_region_lit ?_
    refine sA hS hR (Yld.assign hS rfl) (by decide) ?_; clear hS; intro aa hS
    refine sA hS hR (Yld.assign hS rfl) (by decide) ?_; clear hS; intro aa hS
    refine wpList_nil ?_
    refine hK446 _ _ ?_
    refine wp_ret ?_
    repeat (first | with_reducible refine thenR ?_ | with_reducible refine blockR ?_ | with_reducible refine scopeR ?_)
    refine retN (fn := Try.f40) (e := .ret) (.inl rfl) Try.results40 hS hR ⟨_, .cons (.tmp rfl) (.cons (.tmp rfl) (.nil)), rfl, ?_⟩
    exact ⟨hpos.symm, (hR.sub (by repeat (first | with_reducible exact Ex.refl | (with_reducible apply Ex.take; · repeat (first | with_reducible exact Pk.here | with_reducible apply Pk.there)) | with_reducible apply Ex.drop)))⟩
set_option maxRecDepth 20000 in
theorem RAll_ok {S n b2 c2 : Nat} {r2 : Option Addr} {L : Nat → List Nat} {ys : List Row} {l : List HP} {w : World} (hys : RowsOf n L ys) (hn : 1 ≤ n ∧ n ≤ 4096) {v0 : Int} (hR : Sep (blk b2 [.int .i64 (S : Int), .slice r2 ys.length c2] 70 :: sls r2 ys.length c2 27 1 (ys.flatMap eR) :: rowsH 3 ys :: l) w) : CallR Try.prog 42 [.pointer (some ⟨b2, 0, none⟩), .int .i64 v0] w (fun v w' => ∃ rr cr, v = .slice rr (cst (allS n L v0)).length cr ∧ (∀ k : Nat, v0 = (k : Int) → k < n → ys[k]? = some ((rr, cr), cst (L k))) ∧ (¬ (0 ≤ v0 ∧ v0 < n) → rr = none) ∧ Sep (blk b2 [.int .i64 (S : Int), .slice r2 ys.length c2] 70 :: sls r2 ys.length c2 27 1 (ys.flatMap eR) :: rowsH 3 ys :: l) w') := by
  refine enter Try.func42 rfl Try.ntmps42 (Nat.le_of_ble_eq_true rfl) ?_; intro aa hS
  have hyl := hys.len
  have hb2 : Bk r2 := (hR.pk (r := sls r2 _ _ _ _ _) (by repeat (first | with_reducible exact Pk.here | with_reducible apply Pk.there))).bk (by omega)
  refine wp_seq_k ?_; intro K447 hK447
  refine wp_region_lit ?_
  refine sA hS hR (Yld.assign hS rfl) (by decide) ?_; clear hS; intro aa hS
  refine wpList_nil ?_
  refine hK447 _ _ ?_
  refine wp_seq_k ?_; intro K448 hK448
  refine wp_seq_k ?_; intro K449 hK449
  refine wp_region_lit ?_
  refine sA hS hR (Yld.move hS rfl) (by decide) ?_; clear hS; intro aa hS
  refine sA hS hR (Yld.lss hS rfl rfl) (by decide) ?_; clear hS; intro aa hS
  refine sA hS hR (Yld.move hS rfl) (by decide) ?_; clear hS; intro aa hS
  refine hS.splitB (t := 7) rfl ?_ ?_ <;> clear hS
  · intro hg hS
    refine sSkip hS rfl rfl rfl (by decide) ?_; clear hS; intro aa hS
    refine sSkip hS rfl rfl rfl (by decide) ?_; clear hS; intro aa hS
    refine sSkip hS rfl rfl rfl (by decide) ?_; clear hS; intro aa hS
    refine sSkip hS rfl rfl rfl (by decide) ?_; clear hS; intro aa hS
    refine sSkip hS rfl rfl rfl (by decide) ?_; clear hS; intro aa hS
    refine sSkip hS rfl rfl rfl (by decide) ?_; clear hS; intro aa hS
    refine sSkip hS rfl rfl rfl (by decide) ?_; clear hS; intro aa hS
    refine sA hS hR (Yld.pickT hS rfl rfl) (by decide) ?_; clear hS; intro aa hS
    refine wpList_nil ?_
    refine hK449 _ _ ?_
    refine condT hS rfl ?_
    refine wp_seq_k ?_; intro K450 hK450
    refine wp_region_lit ?_
    refine sA hS hR (Yld.assign hS rfl) (by decide) ?_; clear hS; intro aa hS
    refine wpList_nil ?_
    refine hK450 _ _ ?_
    refine wp_ret ?_
    repeat (first | with_reducible refine thenR ?_ | with_reducible refine blockR ?_ | with_reducible refine scopeR ?_)
    refine ret1 (fn := Try.f42) (e := .ret) (.inl rfl) Try.results42 hS hR ⟨_, (.tmp rfl), ?_⟩
    have hz : allS n L v0 = [] := if_neg (by omega)
    rw [hz]
    exact ⟨none, 0, rfl, fun k h1 h2 => by omega, fun _ => rfl, (hR.sub (by repeat (first | with_reducible exact Ex.refl | (with_reducible apply Ex.take; · repeat (first | with_reducible exact Pk.here | with_reducible apply Pk.there)) | with_reducible apply Ex.drop)))⟩
  · intro hg hS
    refine sAg hS hR rfl rfl (Yld.move hS rfl) (by decide) ?_; clear hS; intro aa hS
    refine sAg hS hR rfl rfl (Yld.move hS rfl) (by decide) ?_; clear hS; intro aa hS
    refine sAg hS hR rfl rfl (Yld.nilCheck hS rfl) (by decide) ?_; clear hS; intro aa hS
    refine sAg hS hR rfl rfl (Yld.fieldAddr hS rfl 1 Try.underlying70 rfl rfl info26 (by decide)) (by decide) ?_; clear hS; intro aa hS
    refine sAg hS hR rfl rfl (Yld.load1 hS rfl Try.underlying26 rfl (by first | exact Rd.blk (by repeat (first | with_reducible exact Pk.here | with_reducible apply Pk.there)) (by rfl) | exact Rd.rec (by repeat (first | with_reducible exact Pk.here | with_reducible apply Pk.there)) (by intro _; rfl) (by omega) rfl | exact Rd.rec0 (by repeat (first | with_reducible exact Pk.here | with_reducible apply Pk.there)) (by intro _; rfl) (by omega) rfl | exact Rd.flatJ (by repeat (first | with_reducible exact Pk.here | with_reducible apply Pk.there)) (by intro _; rfl) (by omega) rfl | exact Rd.flat0 (by repeat (first | with_reducible exact Pk.here | with_reducible apply Pk.there)) (by intro _; rfl) (by omega) rfl)) (by decide) ?_; clear hS; intro aa hS
    refine sAg hS hR rfl rfl (Yld.len hS rfl Try.underlying26) (by decide) ?_; clear hS; intro aa hS
    refine sAg hS hR rfl rfl (Yld.geq hS rfl rfl) (by decide) ?_; clear hS; intro aa hS
    refine sA hS hR (Yld.pickF hS rfl rfl) (by decide) ?_; clear hS; intro aa hS
    refine wpList_nil ?_
    refine hK449 _ _ ?_
    refine hS.splitB (t := 15) rfl ?_ ?_ <;> clear hS
    · intro hg hS
      refine condT hS rfl ?_
      refine wp_seq_k ?_; intro K451 hK451
      refine wp_region_lit ?_
      refine sA hS hR (Yld.assign hS rfl) (by decide) ?_; clear hS; intro aa hS
      refine wpList_nil ?_
      refine hK451 _ _ ?_
      refine wp_ret ?_
      repeat (first | with_reducible refine thenR ?_ | with_reducible refine blockR ?_ | with_reducible refine scopeR ?_)
      refine ret1 (fn := Try.f42) (e := .ret) (.inl rfl) Try.results42 hS hR ⟨_, (.tmp rfl), ?_⟩
      have hz : allS n L v0 = [] := if_neg (by omega)
      rw [hz]
      exact ⟨none, 0, rfl, fun k h1 h2 => by omega, fun _ => rfl, (hR.sub (by repeat (first | with_reducible exact Ex.refl | (with_reducible apply Ex.take; · repeat (first | with_reducible exact Pk.here | with_reducible apply Pk.there)) | with_reducible apply Ex.drop)))⟩
    · intro hg hS
      obtain ⟨k0, rfl⟩ : ∃ k : Nat, v0 = k := ⟨v0.toNat, by omega⟩
      have hk0 : k0 < n := by omega
      obtain ⟨rr, cr, hrow⟩ := hys.get (k := k0) (by omega)
      obtain ⟨zs, hzs⟩ : ∃ z, cst (L k0) = z := ⟨_, rfl⟩
      rw [hzs] at hrow
      refine condF hS rfl ?_
      refine wp_skip ?_
      refine hK448 _ _ ?_
      refine wp_seq_k ?_; intro K452 hK452
      refine wp_region_lit ?_
      refine sA hS hR (Yld.move hS rfl) (by decide) ?_; clear hS; intro aa hS
      refine sA hS hR (Yld.nilCheck hS rfl) (by decide) ?_; clear hS; intro aa hS
      refine sA hS hR (Yld.fieldAddr hS rfl 1 Try.underlying70 rfl rfl info26 (by decide)) (by decide) ?_; clear hS; intro aa hS
      refine sA hS hR (Yld.load1 hS rfl Try.underlying26 rfl (by first | exact Rd.blk (by repeat (first | with_reducible exact Pk.here | with_reducible apply Pk.there)) (by rfl) | exact Rd.rec (by repeat (first | with_reducible exact Pk.here | with_reducible apply Pk.there)) (by intro _; rfl) (by omega) rfl | exact Rd.rec0 (by repeat (first | with_reducible exact Pk.here | with_reducible apply Pk.there)) (by intro _; rfl) (by omega) rfl | exact Rd.flatJ (by repeat (first | with_reducible exact Pk.here | with_reducible apply Pk.there)) (by intro _; rfl) (by omega) rfl | exact Rd.flat0 (by repeat (first | with_reducible exact Pk.here | with_reducible apply Pk.there)) (by intro _; rfl) (by omega) rfl)) (by decide) ?_; clear hS; intro aa hS
      refine sA hS hR (Yld.move hS rfl) (by decide) ?_; clear hS; intro aa hS
      refine sA hS hR ((by first | exact Yld.indexH (sz := 1) (k0) hS rfl rfl Try.underlying26 info27 (by assumption) rfl (by first | rfl | omega) (by omega) | exact Yld.indexL (sz := 1) (k0) hS rfl rfl Try.underlying26 info27 (by repeat (first | with_reducible exact Pk.here | with_reducible apply Pk.there)) rfl (by first | rfl | omega) (by omega) | exact Yld.indexB (sz := 1) (k0) hS rfl rfl Try.underlying26 info27 rfl (by first | rfl | omega) (by omega))) (by decide) ?_; clear hS; intro aa hS
      refine sA hS hR (Yld.load1 hS rfl Try.underlying27 rfl (Rd.rec0 (k := k0) (xs := ys) (v := .slice rr zs.length cr) (by repeat (first | with_reducible exact Pk.here | with_reducible apply Pk.there)) (by intro _; rfl) (by omega) (by rw [(List.getElem?_eq_some_iff.1 hrow).2]; rfl))) (by decide) ?_; clear hS; intro aa hS
      refine sA hS hR (Yld.assign hS rfl) (by decide) ?_; clear hS; intro aa hS
      refine wpList_nil ?_
      refine hK452 _ _ ?_
      refine wp_ret ?_
      repeat (first | with_reducible refine thenR ?_ | with_reducible refine blockR ?_ | with_reducible refine scopeR ?_)
      refine ret1 (fn := Try.f42) (e := .ret) (.inl rfl) Try.results42 hS hR ⟨_, (.tmp rfl), ?_⟩
      refine ⟨rr, cr, by rw [allS_nat hk0, hzs], fun k h1 h2 => ?_, fun h => by omega, (hR.sub (by repeat (first | with_reducible exact Ex.refl | (with_reducible apply Ex.take; · repeat (first | with_reducible exact Pk.here | with_reducible apply Pk.there)) | with_reducible apply Ex.drop)))⟩
      obtain rfl : k0 = k := by omega
      rw [hzs]; exact hrow
theorem ofI_mem {n : Nat} {L : Nat → List Nat} {v : Int} {i : Nat} (h : ofI n L v = some i) : v ∈ cst (L i) := by simpa using List.find?_some h
set_option maxHeartbeats 1000000 in
set_option maxRecDepth 20000 in
theorem RBeside_ok {S n b2 c2 : Nat} {r2 : Option Addr} {L : Nat → List Nat} {ys : List Row} {l : List HP} {w : World} (hys : RowsOf n L ys) (hn : 1 ≤ n ∧ n ≤ 4096) (hL : ∀ k, k < n → (L k).length ≤ 8192) {v0 d0 : Int} (hof : ∀ i, ofI n L v0 = some i → i < n) (hd : -1 ≤ d0 ∧ d0 ≤ 1) (hR : Sep (blk b2 [.int .i64 (S : Int), .slice r2 ys.length c2] 70 :: sls r2 ys.length c2 27 1 (ys.flatMap eR) :: rowsH 3 ys :: l) w) : CallR Try.prog 41 [.pointer (some ⟨b2, 0, none⟩), .int .i64 v0, .int .i64 d0] w (fun v w' => v = optV (besR n L v0 d0) ∧ Sep (blk b2 [.int .i64 (S : Int), .slice r2 ys.length c2] 70 :: sls r2 ys.length c2 27 1 (ys.flatMap eR) :: rowsH 3 ys :: l) w') := by
  refine enter Try.func41 rfl Try.ntmps41 (Nat.le_of_ble_eq_true rfl) ?_; intro aa hS
  have hyl := hys.len
  have hb2 : Bk r2 := (hR.pk (r := sls r2 _ _ _ _ _) (by repeat (first | with_reducible exact Pk.here | with_reducible apply Pk.there))).bk (by omega)
  have hn1 := hn
  refine wp_seq_k ?_; intro K453 hK453
  refine wp_region_lit ?_
  refine sA hS hR (Yld.assign hS rfl) (by decide) ?_; clear hS; intro aa hS
  refine sA hS hR (Yld.assign hS rfl) (by decide) ?_; clear hS; intro aa hS
  refine wpList_nil ?_
  refine hK453 _ _ ?_
  refine wp_seq_k ?_; intro K454 hK454
  refine wp_region_lit ?_
  refine sA hS hR (Yld.move hS rfl) (by decide) ?_; clear hS; intro aa hS
  refine sA hS hR (Yld.move hS rfl) (by decide) ?_; clear hS; intro aa hS
  by_cases hn : (ofI n L v0).isSome = true
  ·
    refine sB (Bcall hS rfl Try.call40 (ROf_ok hys hn1 hL (((hR.pk (r := rowsH _ _) (by repeat (first | with_reducible exact Pk.here | with_reducible apply Pk.there))).pk (r := sls r2 _ _ _ _ _) (by repeat (first | with_reducible exact Pk.here | with_reducible apply Pk.there))).pk (r := blk b2 _ _) (by repeat (first | with_reducible exact Pk.here | with_reducible apply Pk.there)))) (by decide) ?_); clear hS; intro aa ww vv hS hp
    clear hR
    obtain ⟨rfl, hR⟩ := hp
    have hn2 := hn
    obtain ⟨i, hi0⟩ := Option.isSome_iff_exists.1 hn2
    have hin := hof i hi0
    obtain ⟨rr, cr, hrow⟩ := hys.get (k := i) (by omega)
    obtain ⟨zs, hzs⟩ : ∃ z, cst (L i) = z := ⟨_, rfl⟩
    rw [hzs] at hrow
    have hzL : zs.length = (L i).length := by rw [← hzs, cst_len]
    have hzl : zs.length ≤ 8192 := by rw [← hzs, cst_len]; exact hL i hin
    have hs := hR.intsRow (TI := 3) (by repeat (first | with_reducible exact Pk.here | with_reducible apply Pk.there)) hrow
    obtain ⟨k, hk⟩ : ∃ k, zs.idxOf v0 = k := ⟨_, rfl⟩
    have hkl : k < zs.length := by rw [← hk]; exact List.idxOf_lt_length_of_mem (by rw [← hzs]; exact ofI_mem hi0)
    rw [show posV n L v0 = .tuple [.int .i64 (i : Int), .int .i64 (k : Int)].toArray from by rw [posV, hi0]; dsimp only; rw [hzs, hk]] at hS
    refine sA hS hR (Yld.move hS rfl) (by decide) ?_; clear hS; intro aa hS
    refine sA hS hR (Yld.extract hS rfl rfl) (by decide) ?_; clear hS; intro aa hS
    refine sA hS hR (Yld.extract hS rfl rfl) (by decide) ?_; clear hS; intro aa hS
    refine sA hS hR (Yld.assign hS rfl) (by decide) ?_; clear hS; intro aa hS
    refine sA hS hR (Yld.assign hS rfl) (by decide) ?_; clear hS; intro aa hS
    refine wpList_nil ?_
    refine hK454 _ _ ?_
    refine wp_seq_k ?_; intro K455 hK455
    refine wp_seq_k ?_; intro K456 hK456
    refine wp_region_lit ?_
    refine sA hS hR (Yld.move hS rfl) (by decide) ?_; clear hS; intro aa hS
    refine sA hS hR (Yld.lss hS rfl rfl) (by decide) ?_; clear hS; intro aa hS
    replace hS := hS.sayB (t := 17) false rfl (by exact decide_eq_false (by omega))
    refine sA hS hR (Yld.move hS rfl) (by decide) ?_; clear hS; intro aa hS
    refine sAg hS hR rfl rfl (Yld.move hS rfl) (by decide) ?_; clear hS; intro aa hS
    refine sAg hS hR rfl rfl (Yld.move hS rfl) (by decide) ?_; clear hS; intro aa hS
    refine sAg hS hR rfl rfl ((by first | exact Yld.add64 hS rfl rfl (by omega) | exact Yld.add hS rfl rfl)) (by decide) ?_; clear hS; intro aa hS
    refine sAg hS hR rfl rfl (Yld.lss hS rfl rfl) (by decide) ?_; clear hS; intro aa hS
    refine sA hS hR (Yld.pickF hS rfl rfl) (by decide) ?_; clear hS; intro aa hS
    refine sA hS hR (Yld.move hS rfl) (by decide) ?_; clear hS; intro aa hS
    refine hS.splitB (t := 24) rfl ?_ ?_ <;> clear hS
    · intro hg hS
      refine sSkip hS rfl rfl rfl (by decide) ?_; clear hS; intro aa hS
      refine sSkip hS rfl rfl rfl (by decide) ?_; clear hS; intro aa hS
      refine sSkip hS rfl rfl rfl (by decide) ?_; clear hS; intro aa hS
      refine sSkip hS rfl rfl rfl (by decide) ?_; clear hS; intro aa hS
      refine sSkip hS rfl rfl rfl (by decide) ?_; clear hS; intro aa hS
      refine sSkip hS rfl rfl rfl (by decide) ?_; clear hS; intro aa hS
      refine sSkip hS rfl rfl rfl (by decide) ?_; clear hS; intro aa hS
      refine sSkip hS rfl rfl rfl (by decide) ?_; clear hS; intro aa hS
      refine sSkip hS rfl rfl rfl (by decide) ?_; clear hS; intro aa hS
      refine sSkip hS rfl rfl rfl (by decide) ?_; clear hS; intro aa hS
      refine sSkip hS rfl rfl rfl (by decide) ?_; clear hS; intro aa hS
      refine sSkip hS rfl rfl rfl (by decide) ?_; clear hS; intro aa hS
      refine sA hS hR (Yld.pickT hS rfl rfl) (by decide) ?_; clear hS; intro aa hS
      refine wpList_nil ?_
      refine hK456 _ _ ?_
      refine condT hS rfl ?_
      refine wp_seq_k ?_; intro K457 hK457
      refine wp_region_lit ?_
      refine sA hS hR (Yld.assign hS rfl) (by decide) ?_; clear hS; intro aa hS
      refine sA hS hR (Yld.assign hS rfl) (by decide) ?_; clear hS; intro aa hS
      refine wpList_nil ?_
      refine hK457 _ _ ?_
      refine wp_ret ?_
      repeat (first | with_reducible refine thenR ?_ | with_reducible refine blockR ?_ | with_reducible refine scopeR ?_)
      refine retN (fn := Try.f41) (e := .ret) (.inl rfl) Try.results41 hS hR ⟨_, .cons (.tmp rfl) (.cons (.tmp rfl) (.nil)), rfl, ?_⟩
      refine ⟨?_, (hR.sub (by repeat (first | with_reducible exact Ex.refl | (with_reducible apply Ex.take; · repeat (first | with_reducible exact Pk.here | with_reducible apply Pk.there)) | with_reducible apply Ex.drop)))⟩
      rw [besR, hi0]
      dsimp only
      rw [hzs, hk, ← hzL]
      rw [if_pos (by omega)]; rfl
    · intro hg hS
      refine sAg hS hR rfl rfl (Yld.move hS rfl) (by decide) ?_; clear hS; intro aa hS
      refine sAg hS hR rfl rfl (Yld.move hS rfl) (by decide) ?_; clear hS; intro aa hS
      refine sAg hS hR rfl rfl ((by first | exact Yld.add64 hS rfl rfl (by omega) | exact Yld.add hS rfl rfl)) (by decide) ?_; clear hS; intro aa hS
      refine sAg hS hR rfl rfl (Yld.move hS rfl) (by decide) ?_; clear hS; intro aa hS
      refine sAg hS hR rfl rfl (Yld.nilCheck hS rfl) (by decide) ?_; clear hS; intro aa hS
      refine sAg hS hR rfl rfl (Yld.fieldAddr hS rfl 1 Try.underlying70 rfl rfl info26 (by decide)) (by decide) ?_; clear hS; intro aa hS
      refine sAg hS hR rfl rfl (Yld.load1 hS rfl Try.underlying26 rfl (by first | exact Rd.blk (by repeat (first | with_reducible exact Pk.here | with_reducible apply Pk.there)) (by rfl) | exact Rd.rec (by repeat (first | with_reducible exact Pk.here | with_reducible apply Pk.there)) (by intro _; rfl) (by omega) rfl | exact Rd.rec0 (by repeat (first | with_reducible exact Pk.here | with_reducible apply Pk.there)) (by intro _; rfl) (by omega) rfl | exact Rd.flatJ (by repeat (first | with_reducible exact Pk.here | with_reducible apply Pk.there)) (by intro _; rfl) (by omega) rfl | exact Rd.flat0 (by repeat (first | with_reducible exact Pk.here | with_reducible apply Pk.there)) (by intro _; rfl) (by omega) rfl)) (by decide) ?_; clear hS; intro aa hS
      refine sAg hS hR rfl rfl (Yld.move hS rfl) (by decide) ?_; clear hS; intro aa hS
      refine sAg hS hR rfl rfl ((by first | exact Yld.indexH (sz := 1) (i) hS rfl rfl Try.underlying26 info27 (by assumption) rfl (by first | rfl | omega) (by omega) | exact Yld.indexL (sz := 1) (i) hS rfl rfl Try.underlying26 info27 (by repeat (first | with_reducible exact Pk.here | with_reducible apply Pk.there)) rfl (by first | rfl | omega) (by omega) | exact Yld.indexB (sz := 1) (i) hS rfl rfl Try.underlying26 info27 rfl (by first | rfl | omega) (by omega))) (by decide) ?_; clear hS; intro aa hS
      refine sAg hS hR rfl rfl (Yld.load1 hS rfl Try.underlying27 rfl (Rd.rec0 (k := i) (xs := ys) (v := .slice rr zs.length cr) (by repeat (first | with_reducible exact Pk.here | with_reducible apply Pk.there)) (by intro _; rfl) (by omega) (by rw [(List.getElem?_eq_some_iff.1 hrow).2]; rfl))) (by decide) ?_; clear hS; intro aa hS
      refine sAg hS hR rfl rfl (Yld.len hS rfl Try.underlying27) (by decide) ?_; clear hS; intro aa hS
      refine sAg hS hR rfl rfl (Yld.geq hS rfl rfl) (by decide) ?_; clear hS; intro aa hS
      refine sA hS hR (Yld.pickF hS rfl rfl) (by decide) ?_; clear hS; intro aa hS
      refine wpList_nil ?_
      refine hK456 _ _ ?_
      refine hS.splitB (t := 37) rfl ?_ ?_ <;> clear hS
      · intro hg hS
        refine condT hS rfl ?_
        refine wp_seq_k ?_; intro K458 hK458
        refine wp_region_lit ?_
        refine sA hS hR (Yld.assign hS rfl) (by decide) ?_; clear hS; intro aa hS
        refine sA hS hR (Yld.assign hS rfl) (by decide) ?_; clear hS; intro aa hS
        refine wpList_nil ?_
        refine hK458 _ _ ?_
        refine wp_ret ?_
        repeat (first | with_reducible refine thenR ?_ | with_reducible refine blockR ?_ | with_reducible refine scopeR ?_)
        refine retN (fn := Try.f41) (e := .ret) (.inl rfl) Try.results41 hS hR ⟨_, .cons (.tmp rfl) (.cons (.tmp rfl) (.nil)), rfl, ?_⟩
        refine ⟨?_, (hR.sub (by repeat (first | with_reducible exact Ex.refl | (with_reducible apply Ex.take; · repeat (first | with_reducible exact Pk.here | with_reducible apply Pk.there)) | with_reducible apply Ex.drop)))⟩
        rw [besR, hi0]
        dsimp only
        rw [hzs, hk, ← hzL]
        rw [if_pos (by omega)]; rfl
      · intro hg hS
        obtain ⟨j, hj⟩ : ∃ j : Nat, (k : Int) + d0 = j := ⟨((k : Int) + d0).toNat, by omega⟩
        have hjz : j < zs.length := by omega
        have hjl : j < (L i).length := by omega
        have hvj : zs[j] = (((L i)[j] : Nat) : Int) := by subst hzs; exact cst_get _
        obtain ⟨b1, i1, hq1, hr1⟩ := hs (by dsimp only; omega)
        dsimp only at hq1 hr1
        refine condF hS rfl ?_
        refine wp_skip ?_
        refine hK455 _ _ ?_
        refine wp_seq_k ?_; intro K459 hK459
        refine wp_region_lit ?_
        refine sA hS hR (Yld.move hS rfl) (by decide) ?_; clear hS; intro aa hS
        refine sA hS hR (Yld.nilCheck hS rfl) (by decide) ?_; clear hS; intro aa hS
        refine sA hS hR (Yld.fieldAddr hS rfl 1 Try.underlying70 rfl rfl info26 (by decide)) (by decide) ?_; clear hS; intro aa hS
        refine sA hS hR (Yld.load1 hS rfl Try.underlying26 rfl (by first | exact Rd.blk (by repeat (first | with_reducible exact Pk.here | with_reducible apply Pk.there)) (by rfl) | exact Rd.rec (by repeat (first | with_reducible exact Pk.here | with_reducible apply Pk.there)) (by intro _; rfl) (by omega) rfl | exact Rd.rec0 (by repeat (first | with_reducible exact Pk.here | with_reducible apply Pk.there)) (by intro _; rfl) (by omega) rfl | exact Rd.flatJ (by repeat (first | with_reducible exact Pk.here | with_reducible apply Pk.there)) (by intro _; rfl) (by omega) rfl | exact Rd.flat0 (by repeat (first | with_reducible exact Pk.here | with_reducible apply Pk.there)) (by intro _; rfl) (by omega) rfl)) (by decide) ?_; clear hS; intro aa hS
        refine sA hS hR (Yld.move hS rfl) (by decide) ?_; clear hS; intro aa hS
        refine sA hS hR ((by first | exact Yld.indexH (sz := 1) (i) hS rfl rfl Try.underlying26 info27 (by assumption) rfl (by first | rfl | omega) (by omega) | exact Yld.indexL (sz := 1) (i) hS rfl rfl Try.underlying26 info27 (by repeat (first | with_reducible exact Pk.here | with_reducible apply Pk.there)) rfl (by first | rfl | omega) (by omega) | exact Yld.indexB (sz := 1) (i) hS rfl rfl Try.underlying26 info27 rfl (by first | rfl | omega) (by omega))) (by decide) ?_; clear hS; intro aa hS
        refine sA hS hR (Yld.load1 hS rfl Try.underlying27 rfl (Rd.rec0 (k := i) (xs := ys) (v := .slice rr zs.length cr) (by repeat (first | with_reducible exact Pk.here | with_reducible apply Pk.there)) (by intro _; rfl) (by omega) (by rw [(List.getElem?_eq_some_iff.1 hrow).2]; rfl))) (by decide) ?_; clear hS; intro aa hS
        rw [hq1] at hS
        refine sA hS hR (Yld.move hS rfl) (by decide) ?_; clear hS; intro aa hS
        refine sA hS hR (Yld.move hS rfl) (by decide) ?_; clear hS; intro aa hS
        refine sA hS hR ((by first | exact Yld.add64 hS rfl rfl (by omega) | exact Yld.add hS rfl rfl)) (by decide) ?_; clear hS; intro aa hS
        replace hS := hS.say (t := 47) (.int .i64 ((j : Nat) : Int)) rfl (by rw [hj])
        refine sA hS hR ((by first | exact Yld.indexL (sz := 1) _ hS rfl rfl Try.underlying27 info3 (by repeat (first | with_reducible exact Pk.here | with_reducible apply Pk.there)) rfl rfl (by omega) | exact Yld.indexB (sz := 1) _ hS rfl rfl Try.underlying27 info3 rfl rfl (by omega) | exact Yld.indexSlice hS rfl rfl Try.underlying27 info3 (by omega) (by omega))) (by decide) ?_; clear hS; intro aa hS
        refine sA hS hR (Yld.load1 hS rfl Try.underlying3 rfl ((hr1 j hjz).at (by show i1 + j * 1 = _; omega))) (by decide) ?_; clear hS; intro aa hS
        rw [hvj] at hS
        refine sA hS hR (Yld.assign hS rfl) (by decide) ?_; clear hS; intro aa hS
        refine sA hS hR (Yld.assign hS rfl) (by decide) ?_; clear hS; intro aa hS
        refine wpList_nil ?_
        refine hK459 _ _ ?_
        refine wp_ret ?_
        repeat (first | with_reducible refine thenR ?_ | with_reducible refine blockR ?_ | with_reducible refine scopeR ?_)
        refine retN (fn := Try.f41) (e := .ret) (.inl rfl) Try.results41 hS hR ⟨_, .cons (.tmp rfl) (.cons (.tmp rfl) (.nil)), rfl, ?_⟩
        refine ⟨?_, (hR.sub (by repeat (first | with_reducible exact Ex.refl | (with_reducible apply Ex.take; · repeat (first | with_reducible exact Pk.here | with_reducible apply Pk.there)) | with_reducible apply Ex.drop)))⟩
        rw [besR, hi0]
        dsimp only
        rw [hzs, hk, ← hzL]
        rw [if_neg (by omega), hj, Int.toNat_natCast, List.getElem?_eq_getElem hjl]; rfl
  ·
    refine sB (Bcall hS rfl Try.call40 (ROf_ok hys hn1 hL (((hR.pk (r := rowsH _ _) (by repeat (first | with_reducible exact Pk.here | with_reducible apply Pk.there))).pk (r := sls r2 _ _ _ _ _) (by repeat (first | with_reducible exact Pk.here | with_reducible apply Pk.there))).pk (r := blk b2 _ _) (by repeat (first | with_reducible exact Pk.here | with_reducible apply Pk.there)))) (by decide) ?_); clear hS; intro aa ww vv hS hp
    clear hR
    obtain ⟨rfl, hR⟩ := hp
    have hn2 := hn
    have hno : ofI n L v0 = none := by
      cases h : ofI n L v0 with
      | none => rfl
      | some i => rw [h] at hn2; simp at hn2
    rw [show posV n L v0 = .tuple [.int .i64 (-1), .int .i64 (-1)].toArray from by rw [posV, hno]] at hS
    refine sA hS hR (Yld.move hS rfl) (by decide) ?_; clear hS; intro aa hS
    refine sA hS hR (Yld.extract hS rfl rfl) (by decide) ?_; clear hS; intro aa hS
    refine sA hS hR (Yld.extract hS rfl rfl) (by decide) ?_; clear hS; intro aa hS
    refine sA hS hR (Yld.assign hS rfl) (by decide) ?_; clear hS; intro aa hS
    refine sA hS hR (Yld.assign hS rfl) (by decide) ?_; clear hS; intro aa hS
    refine wpList_nil ?_
    refine hK454 _ _ ?_
    refine wp_seq_k ?_; intro K460 hK460
    refine wp_seq_k ?_; intro K461 hK461
    refine wp_region_lit ?_
    refine sA hS hR (Yld.move hS rfl) (by decide) ?_; clear hS; intro aa hS
    refine sA hS hR (Yld.lss hS rfl rfl) (by decide) ?_; clear hS; intro aa hS
    replace hS := hS.sayB (t := 17) true rfl (by rfl)
    refine sA hS hR (Yld.move hS rfl) (by decide) ?_; clear hS; intro aa hS
    refine sSkip hS rfl rfl rfl (by decide) ?_; clear hS; intro aa hS
    refine sSkip hS rfl rfl rfl (by decide) ?_; clear hS; intro aa hS
    refine sSkip hS rfl rfl rfl (by decide) ?_; clear hS; intro aa hS
    refine sSkip hS rfl rfl rfl (by decide) ?_; clear hS; intro aa hS
    refine sA hS hR (Yld.pickT hS rfl rfl) (by decide) ?_; clear hS; intro aa hS
    refine sA hS hR (Yld.move hS rfl) (by decide) ?_; clear hS; intro aa hS
    refine sSkip hS rfl rfl rfl (by decide) ?_; clear hS; intro aa hS
    refine sSkip hS rfl rfl rfl (by decide) ?_; clear hS; intro aa hS
    refine sSkip hS rfl rfl rfl (by decide) ?_; clear hS; intro aa hS
    refine sSkip hS rfl rfl rfl (by decide) ?_; clear hS; intro aa hS
    refine sSkip hS rfl rfl rfl (by decide) ?_; clear hS; intro aa hS
    refine sSkip hS rfl rfl rfl (by decide) ?_; clear hS; intro aa hS
    refine sSkip hS rfl rfl rfl (by decide) ?_; clear hS; intro aa hS
    refine sSkip hS rfl rfl rfl (by decide) ?_; clear hS; intro aa hS
    refine sSkip hS rfl rfl rfl (by decide) ?_; clear hS; intro aa hS
    refine sSkip hS rfl rfl rfl (by decide) ?_; clear hS; intro aa hS
    refine sSkip hS rfl rfl rfl (by decide) ?_; clear hS; intro aa hS
    refine sSkip hS rfl rfl rfl (by decide) ?_; clear hS; intro aa hS
    refine sA hS hR (Yld.pickT hS rfl rfl) (by decide) ?_; clear hS; intro aa hS
    refine wpList_nil ?_
    refine hK461 _ _ ?_
    refine condT hS rfl ?_
    refine wp_seq_k ?_; intro K462 hK462
    refine wp_region_lit ?_
    refine sA hS hR (Yld.assign hS rfl) (by decide) ?_; clear hS; intro aa hS
    refine sA hS hR (Yld.assign hS rfl) (by decide) ?_; clear hS; intro aa hS
    refine wpList_nil ?_
    refine hK462 _ _ ?_
    refine wp_ret ?_
    repeat (first | with_reducible refine thenR ?_ | with_reducible refine blockR ?_ | with_reducible refine scopeR ?_)
    refine retN (fn := Try.f41) (e := .ret) (.inl rfl) Try.results41 hS hR ⟨_, .cons (.tmp rfl) (.cons (.tmp rfl) (.nil)), rfl, ?_⟩
    refine ⟨?_, (hR.sub (by repeat (first | with_reducible exact Ex.refl | (with_reducible apply Ex.take; · repeat (first | with_reducible exact Pk.here | with_reducible apply Pk.there)) | with_reducible apply Ex.drop)))⟩
    rw [besR, hno]; rfl
set_option maxHeartbeats 2000000 in
set_option maxRecDepth 20000 in
theorem RPut_ok {S n b2 : Nat} {L : Nat → List Nat} {l : List HP} {w : World} {x0 y0 : Int} {fr : Bool} (hWL : WL S n L) (hR : Sep (refA 70 27 3 b2 S n L :: l) w) : CallR Try.prog 37 [.pointer (some ⟨b2, 0, none⟩), .int .i64 x0, .int .i64 y0, .bool fr] w (fun v w' => v = .int .i64 (addE S n L x0 y0) ∧ Sep (refA 70 27 3 b2 S n (addS S n L (if fr = true then 0 else 1) x0 y0) :: l) w') := by
  refine enter Try.func37 rfl Try.ntmps37 (Nat.le_of_ble_eq_true rfl) ?_; intro aa hS
  obtain ⟨ys, r2, c2, hys, hR⟩ := hR.refE
  have hn := (show 1 ≤ n ∧ n ≤ 4096 from ⟨hWL.n1, hWL.n2⟩)
  have hs1 := hWL.s1
  have hs2 := hWL.s2
  have hL : ∀ k, k < n → (L k).length ≤ 8192 := fun k hk => by have := hWL.len hk; omega
  have hyl := hys.len
  have hb2 : Bk r2 := (hR.pk (r := sls r2 _ _ _ _ _) (by repeat (first | with_reducible exact Pk.here | with_reducible apply Pk.there))).bk (by omega)
  have hnn := hn
  refine wp_seq_k ?_; intro K463 hK463
  refine wp_region_lit ?_
  refine sA hS hR (Yld.assign hS rfl) (by decide) ?_; clear hS; intro aa hS
  refine wpList_nil ?_
  refine hK463 _ _ ?_
  refine wp_seq_k ?_; intro K464 hK464
  refine wp_seq_k ?_; intro K465 hK465
  refine wp_region_lit ?_
  refine sA hS hR (Yld.move hS rfl) (by decide) ?_; clear hS; intro aa hS
  refine sA hS hR (Yld.lss hS rfl rfl) (by decide) ?_; clear hS; intro aa hS
  refine sA hS hR (Yld.move hS rfl) (by decide) ?_; clear hS; intro aa hS
  refine hS.splitB (t := 13) rfl ?_ ?_ <;> clear hS
  · intro hg hS
    refine sSkip hS rfl rfl rfl (by decide) ?_; clear hS; intro aa hS
    refine sSkip hS rfl rfl rfl (by decide) ?_; clear hS; intro aa hS
    refine sSkip hS rfl rfl rfl (by decide) ?_; clear hS; intro aa hS
    refine sSkip hS rfl rfl rfl (by decide) ?_; clear hS; intro aa hS
    refine sSkip hS rfl rfl rfl (by decide) ?_; clear hS; intro aa hS
    refine sSkip hS rfl rfl rfl (by decide) ?_; clear hS; intro aa hS
    refine sSkip hS rfl rfl rfl (by decide) ?_; clear hS; intro aa hS
    refine sA hS hR (Yld.pickT hS rfl rfl) (by decide) ?_; clear hS; intro aa hS
    refine sA hS hR (Yld.move hS rfl) (by decide) ?_; clear hS; intro aa hS
    refine sSkip hS rfl rfl rfl (by decide) ?_; clear hS; intro aa hS
    refine sSkip hS rfl rfl rfl (by decide) ?_; clear hS; intro aa hS
    refine sA hS hR (Yld.pickT hS rfl rfl) (by decide) ?_; clear hS; intro aa hS
    refine sA hS hR (Yld.move hS rfl) (by decide) ?_; clear hS; intro aa hS
    refine sSkip hS rfl rfl rfl (by decide) ?_; clear hS; intro aa hS
    refine sSkip hS rfl rfl rfl (by decide) ?_; clear hS; intro aa hS
    refine sSkip hS rfl rfl rfl (by decide) ?_; clear hS; intro aa hS
    refine sSkip hS rfl rfl rfl (by decide) ?_; clear hS; intro aa hS
    refine sSkip hS rfl rfl rfl (by decide) ?_; clear hS; intro aa hS
    refine sSkip hS rfl rfl rfl (by decide) ?_; clear hS; intro aa hS
    refine sA hS hR (Yld.pickT hS rfl rfl) (by decide) ?_; clear hS; intro aa hS
    refine wpList_nil ?_
    refine hK465 _ _ ?_
    refine condT hS rfl ?_
    refine wp_seq_k ?_; intro K466 hK466
    refine wp_region_lit ?_
    refine sA hS hR (Yld.assign hS rfl) (by decide) ?_; clear hS; intro aa hS
    refine wpList_nil ?_
    refine hK466 _ _ ?_
    refine wp_ret ?_
    repeat (first | with_reducible refine thenR ?_ | with_reducible refine blockR ?_ | with_reducible refine scopeR ?_)
    refine ret1 (fn := Try.f37) (e := .ret) (.inl rfl) Try.results37 hS hR ⟨_, (.tmp rfl), ?_⟩
    have he : addE S n L x0 y0 = 2 := if_pos (by omega)
    refine ⟨by rw [he], ?_⟩
    exact Sep.refI (TR := 70) (TS := 27) (TI := 3) (S := S) (b2 := b2) (n := n) hys (by rw [addS, he]; rfl) rfl (hR.sub (by repeat (first | with_reducible exact Ex.refl | (with_reducible apply Ex.take; · repeat (first | with_reducible exact Pk.here | with_reducible apply Pk.there)) | with_reducible apply Ex.drop)))
  · intro hg hS
    refine sAg hS hR rfl rfl (Yld.move hS rfl) (by decide) ?_; clear hS; intro aa hS
    refine sAg hS hR rfl rfl (Yld.move hS rfl) (by decide) ?_; clear hS; intro aa hS
    refine sAg hS hR rfl rfl (Yld.nilCheck hS rfl) (by decide) ?_; clear hS; intro aa hS
    refine sAg hS hR rfl rfl (Yld.fieldAddr hS rfl 1 Try.underlying70 rfl rfl info26 (by decide)) (by decide) ?_; clear hS; intro aa hS
    refine sAg hS hR rfl rfl (Yld.load1 hS rfl Try.underlying26 rfl (by first | exact Rd.blk (by repeat (first | with_reducible exact Pk.here | with_reducible apply Pk.there)) (by rfl) | exact Rd.rec (by repeat (first | with_reducible exact Pk.here | with_reducible apply Pk.there)) (by intro _; rfl) (by omega) rfl | exact Rd.rec0 (by repeat (first | with_reducible exact Pk.here | with_reducible apply Pk.there)) (by intro _; rfl) (by omega) rfl | exact Rd.flatJ (by repeat (first | with_reducible exact Pk.here | with_reducible apply Pk.there)) (by intro _; rfl) (by omega) rfl | exact Rd.flat0 (by repeat (first | with_reducible exact Pk.here | with_reducible apply Pk.there)) (by intro _; rfl) (by omega) rfl)) (by decide) ?_; clear hS; intro aa hS
    refine sAg hS hR rfl rfl (Yld.len hS rfl Try.underlying26) (by decide) ?_; clear hS; intro aa hS
    refine sAg hS hR rfl rfl (Yld.geq hS rfl rfl) (by decide) ?_; clear hS; intro aa hS
    refine sA hS hR (Yld.pickF hS rfl rfl) (by decide) ?_; clear hS; intro aa hS
    refine sA hS hR (Yld.move hS rfl) (by decide) ?_; clear hS; intro aa hS
    refine hS.splitB (t := 22) rfl ?_ ?_ <;> clear hS
    · intro hg hS
      refine sSkip hS rfl rfl rfl (by decide) ?_; clear hS; intro aa hS
      refine sSkip hS rfl rfl rfl (by decide) ?_; clear hS; intro aa hS
      refine sA hS hR (Yld.pickT hS rfl rfl) (by decide) ?_; clear hS; intro aa hS
      refine sA hS hR (Yld.move hS rfl) (by decide) ?_; clear hS; intro aa hS
      refine sSkip hS rfl rfl rfl (by decide) ?_; clear hS; intro aa hS
      refine sSkip hS rfl rfl rfl (by decide) ?_; clear hS; intro aa hS
      refine sSkip hS rfl rfl rfl (by decide) ?_; clear hS; intro aa hS
      refine sSkip hS rfl rfl rfl (by decide) ?_; clear hS; intro aa hS
      refine sSkip hS rfl rfl rfl (by decide) ?_; clear hS; intro aa hS
      refine sSkip hS rfl rfl rfl (by decide) ?_; clear hS; intro aa hS
      refine sA hS hR (Yld.pickT hS rfl rfl) (by decide) ?_; clear hS; intro aa hS
      refine wpList_nil ?_
      refine hK465 _ _ ?_
      refine condT hS rfl ?_
      refine wp_seq_k ?_; intro K467 hK467
      refine wp_region_lit ?_
      refine sA hS hR (Yld.assign hS rfl) (by decide) ?_; clear hS; intro aa hS
      refine wpList_nil ?_
      refine hK467 _ _ ?_
      refine wp_ret ?_
      repeat (first | with_reducible refine thenR ?_ | with_reducible refine blockR ?_ | with_reducible refine scopeR ?_)
      refine ret1 (fn := Try.f37) (e := .ret) (.inl rfl) Try.results37 hS hR ⟨_, (.tmp rfl), ?_⟩
      have he : addE S n L x0 y0 = 2 := if_pos (by omega)
      refine ⟨by rw [he], ?_⟩
      exact Sep.refI (TR := 70) (TS := 27) (TI := 3) (S := S) (b2 := b2) (n := n) hys (by rw [addS, he]; rfl) rfl (hR.sub (by repeat (first | with_reducible exact Ex.refl | (with_reducible apply Ex.take; · repeat (first | with_reducible exact Pk.here | with_reducible apply Pk.there)) | with_reducible apply Ex.drop)))
    · intro hg hS
      refine sAg hS hR rfl rfl (Yld.move hS rfl) (by decide) ?_; clear hS; intro aa hS
      refine sAg hS hR rfl rfl (Yld.lss hS rfl rfl) (by decide) ?_; clear hS; intro aa hS
      refine sA hS hR (Yld.pickF hS rfl rfl) (by decide) ?_; clear hS; intro aa hS
      refine sA hS hR (Yld.move hS rfl) (by decide) ?_; clear hS; intro aa hS
      refine hS.splitB (t := 26) rfl ?_ ?_ <;> clear hS
      · intro hg hS
        refine sSkip hS rfl rfl rfl (by decide) ?_; clear hS; intro aa hS
        refine sSkip hS rfl rfl rfl (by decide) ?_; clear hS; intro aa hS
        refine sSkip hS rfl rfl rfl (by decide) ?_; clear hS; intro aa hS
        refine sSkip hS rfl rfl rfl (by decide) ?_; clear hS; intro aa hS
        refine sSkip hS rfl rfl rfl (by decide) ?_; clear hS; intro aa hS
        refine sSkip hS rfl rfl rfl (by decide) ?_; clear hS; intro aa hS
        refine sA hS hR (Yld.pickT hS rfl rfl) (by decide) ?_; clear hS; intro aa hS
        refine wpList_nil ?_
        refine hK465 _ _ ?_
        refine condT hS rfl ?_
        refine wp_seq_k ?_; intro K468 hK468
        refine wp_region_lit ?_
        refine sA hS hR (Yld.assign hS rfl) (by decide) ?_; clear hS; intro aa hS
        refine wpList_nil ?_
        refine hK468 _ _ ?_
        refine wp_ret ?_
        repeat (first | with_reducible refine thenR ?_ | with_reducible refine blockR ?_ | with_reducible refine scopeR ?_)
        refine ret1 (fn := Try.f37) (e := .ret) (.inl rfl) Try.results37 hS hR ⟨_, (.tmp rfl), ?_⟩
        have he : addE S n L x0 y0 = 2 := if_pos (by omega)
        refine ⟨by rw [he], ?_⟩
        exact Sep.refI (TR := 70) (TS := 27) (TI := 3) (S := S) (b2 := b2) (n := n) hys (by rw [addS, he]; rfl) rfl (hR.sub (by repeat (first | with_reducible exact Ex.refl | (with_reducible apply Ex.take; · repeat (first | with_reducible exact Pk.here | with_reducible apply Pk.there)) | with_reducible apply Ex.drop)))
      · intro hg hS
        refine sAg hS hR rfl rfl (Yld.move hS rfl) (by decide) ?_; clear hS; intro aa hS
        refine sAg hS hR rfl rfl (Yld.move hS rfl) (by decide) ?_; clear hS; intro aa hS
        refine sAg hS hR rfl rfl (Yld.nilCheck hS rfl) (by decide) ?_; clear hS; intro aa hS
        refine sAg hS hR rfl rfl (Yld.fieldAddr hS rfl 0 Try.underlying70 rfl rfl info3 (by decide)) (by decide) ?_; clear hS; intro aa hS
        refine sAg hS hR rfl rfl (Yld.load1 hS rfl Try.underlying3 rfl (by first | exact Rd.blk (by repeat (first | with_reducible exact Pk.here | with_reducible apply Pk.there)) (by rfl) | exact Rd.rec (by repeat (first | with_reducible exact Pk.here | with_reducible apply Pk.there)) (by intro _; rfl) (by omega) rfl | exact Rd.rec0 (by repeat (first | with_reducible exact Pk.here | with_reducible apply Pk.there)) (by intro _; rfl) (by omega) rfl | exact Rd.flatJ (by repeat (first | with_reducible exact Pk.here | with_reducible apply Pk.there)) (by intro _; rfl) (by omega) rfl | exact Rd.flat0 (by repeat (first | with_reducible exact Pk.here | with_reducible apply Pk.there)) (by intro _; rfl) (by omega) rfl)) (by decide) ?_; clear hS; intro aa hS
        refine sAg hS hR rfl rfl (Yld.geq hS rfl rfl) (by decide) ?_; clear hS; intro aa hS
        refine sA hS hR (Yld.pickF hS rfl rfl) (by decide) ?_; clear hS; intro aa hS
        refine wpList_nil ?_
        refine hK465 _ _ ?_
        refine hS.splitB (t := 33) rfl ?_ ?_ <;> clear hS
        · intro hg hS
          refine condT hS rfl ?_
          refine wp_seq_k ?_; intro K469 hK469
          refine wp_region_lit ?_
          refine sA hS hR (Yld.assign hS rfl) (by decide) ?_; clear hS; intro aa hS
          refine wpList_nil ?_
          refine hK469 _ _ ?_
          refine wp_ret ?_
          repeat (first | with_reducible refine thenR ?_ | with_reducible refine blockR ?_ | with_reducible refine scopeR ?_)
          refine ret1 (fn := Try.f37) (e := .ret) (.inl rfl) Try.results37 hS hR ⟨_, (.tmp rfl), ?_⟩
          have he : addE S n L x0 y0 = 2 := if_pos (by omega)
          refine ⟨by rw [he], ?_⟩
          exact Sep.refI (TR := 70) (TS := 27) (TI := 3) (S := S) (b2 := b2) (n := n) hys (by rw [addS, he]; rfl) rfl (hR.sub (by repeat (first | with_reducible exact Ex.refl | (with_reducible apply Ex.take; · repeat (first | with_reducible exact Pk.here | with_reducible apply Pk.there)) | with_reducible apply Ex.drop)))
        · intro hg hS
          obtain ⟨x0, rfl⟩ : ∃ z9 : Nat, x0 = z9 := ⟨(x0).toNat, by omega⟩
          obtain ⟨y0, rfl⟩ : ∃ z9 : Nat, y0 = z9 := ⟨(y0).toNat, by omega⟩
          have hx : x0 < n := by omega
          have hy : y0 < S := by omega
          obtain ⟨rr, cr, hrow⟩ := hys.get (k := x0) (by omega)
          obtain ⟨zs, hzs⟩ : ∃ z, cst (L x0) = z := ⟨_, rfl⟩
          rw [hzs] at hrow
          have hzl : zs.length ≤ 8192 := by rw [← hzs, cst_len]; exact hL x0 hx
          refine condF hS rfl ?_
          refine wp_skip ?_
          refine hK464 _ _ ?_
          refine wp_seq_k ?_; intro K470 hK470
          refine wp_seq_k ?_; intro K471 hK471
          refine wp_region_lit ?_
          refine sA hS hR (Yld.move hS rfl) (by decide) ?_; clear hS; intro aa hS
          refine sA hS hR (Yld.move hS rfl) (by decide) ?_; clear hS; intro aa hS
          by_cases hn : (ofL n L y0).isSome = true
          ·
            refine sB (Bcall hS rfl Try.call40 (ROf_ok (v0 := (y0 : Int)) hys hnn hL (((hR.pk (r := rowsH _ _) (by repeat (first | with_reducible exact Pk.here | with_reducible apply Pk.there))).pk (r := sls r2 _ _ _ _ _) (by repeat (first | with_reducible exact Pk.here | with_reducible apply Pk.there))).pk (r := blk b2 _ _) (by repeat (first | with_reducible exact Pk.here | with_reducible apply Pk.there)))) (by decide) ?_); clear hS; intro aa ww vv hS hp
            clear hR
            obtain ⟨rfl, hR⟩ := hp
            have hn9 := hn
            obtain ⟨i, hi0⟩ := Option.isSome_iff_exists.1 hn9
            rw [show posV n L (y0 : Int) = .tuple [.int .i64 (i : Int), .int .i64 (((cst (L i)).idxOf (y0 : Int) : Nat) : Int)].toArray from by rw [posV, ofI_ofL, hi0]] at hS
            refine sA hS hR (Yld.move hS rfl) (by decide) ?_; clear hS; intro aa hS
            refine sA hS hR (Yld.extract hS rfl rfl) (by decide) ?_; clear hS; intro aa hS
            refine sA hS hR (Yld.extract hS rfl rfl) (by decide) ?_; clear hS; intro aa hS
            refine sA hS hR (Yld.assign hS rfl) (by decide) ?_; clear hS; intro aa hS
            refine sA hS hR (Yld.assign hS rfl) (by decide) ?_; clear hS; intro aa hS
            refine wpList_nil ?_
            refine hK471 _ _ ?_
            refine wp_seq_k ?_; intro K472 hK472
            refine wp_region_lit ?_
            refine sA hS hR (Yld.move hS rfl) (by decide) ?_; clear hS; intro aa hS
            refine sA hS hR (Yld.geq hS rfl rfl) (by decide) ?_; clear hS; intro aa hS
            replace hS := hS.sayB (t := 41) true rfl (by exact decide_eq_true (by omega))
            refine wpList_nil ?_
            refine hK472 _ _ ?_
            refine condT hS rfl ?_
            refine wp_seq_k ?_; intro K473 hK473
            refine wp_region_lit ?_
            refine sA hS hR (Yld.assign hS rfl) (by decide) ?_; clear hS; intro aa hS
            refine wpList_nil ?_
            refine hK473 _ _ ?_
            refine wp_ret ?_
            repeat (first | with_reducible refine thenR ?_ | with_reducible refine blockR ?_ | with_reducible refine scopeR ?_)
            refine ret1 (fn := Try.f37) (e := .ret) (.inl rfl) Try.results37 hS hR ⟨_, (.tmp rfl), ?_⟩
            have he : addE S n L x0 y0 = 140 := addE_has hx hy hi0
            refine ⟨by rw [he], ?_⟩
            exact Sep.refI (TR := 70) (TS := 27) (TI := 3) (S := S) (b2 := b2) (n := n) hys (by rw [addS, he]; rfl) rfl (hR.sub (by repeat (first | with_reducible exact Ex.refl | (with_reducible apply Ex.take; · repeat (first | with_reducible exact Pk.here | with_reducible apply Pk.there)) | with_reducible apply Ex.drop)))
          ·
            refine sB (Bcall hS rfl Try.call40 (ROf_ok (v0 := (y0 : Int)) hys hnn hL (((hR.pk (r := rowsH _ _) (by repeat (first | with_reducible exact Pk.here | with_reducible apply Pk.there))).pk (r := sls r2 _ _ _ _ _) (by repeat (first | with_reducible exact Pk.here | with_reducible apply Pk.there))).pk (r := blk b2 _ _) (by repeat (first | with_reducible exact Pk.here | with_reducible apply Pk.there)))) (by decide) ?_); clear hS; intro aa ww vv hS hp
            clear hR
            obtain ⟨rfl, hR⟩ := hp
            have hn9 := hn
            have hno : ofL n L y0 = none := by
              cases h : ofL n L y0 with
              | none => rfl
              | some i => rw [h] at hn9; simp at hn9
            rw [show posV n L (y0 : Int) = .tuple [.int .i64 (-1), .int .i64 (-1)].toArray from by rw [posV, ofI_ofL, hno]] at hS
            refine sA hS hR (Yld.move hS rfl) (by decide) ?_; clear hS; intro aa hS
            refine sA hS hR (Yld.extract hS rfl rfl) (by decide) ?_; clear hS; intro aa hS
            refine sA hS hR (Yld.extract hS rfl rfl) (by decide) ?_; clear hS; intro aa hS
            refine sA hS hR (Yld.assign hS rfl) (by decide) ?_; clear hS; intro aa hS
            refine sA hS hR (Yld.assign hS rfl) (by decide) ?_; clear hS; intro aa hS
            refine wpList_nil ?_
            refine hK471 _ _ ?_
            refine wp_seq_k ?_; intro K474 hK474
            refine wp_region_lit ?_
            refine sA hS hR (Yld.move hS rfl) (by decide) ?_; clear hS; intro aa hS
            refine sA hS hR (Yld.geq hS rfl rfl) (by decide) ?_; clear hS; intro aa hS
            replace hS := hS.sayB (t := 41) false rfl (by rfl)
            refine wpList_nil ?_
            refine hK474 _ _ ?_
            refine condF hS rfl ?_
            refine wp_skip ?_
            refine hK470 _ _ ?_
            refine wp_seq_k ?_; intro K475 hK475
            refine wp_seq_k ?_; intro K476 hK476
            refine wp_region_lit ?_
            refine sA hS hR (Yld.move hS rfl) (by decide) ?_; clear hS; intro aa hS
            refine wpList_nil ?_
            refine hK476 _ _ ?_
            refine hS.splitB (t := 42) rfl ?_ ?_ <;> clear hS
            · intro hg hS
              refine condT hS rfl ?_
              refine drawn (by kernel_rfl) hR (Ex.of_pk (r := sls r2 _ _ _ _ _) (by repeat (first | with_reducible exact Pk.here | with_reducible apply Pk.there))) ?_; clear hR; intro ww hR hR0
              refine dA 0 rfl (by kernel_rfl) (by kernel_rfl) (by kernel_rfl) (fun _ _ _ h => h) hS hR0 (Yld.move hS rfl) (by decide) ?_; clear hS; intro aa hS
              refine dA 1 rfl (by kernel_rfl) (by kernel_rfl) (by kernel_rfl) (fun _ _ _ h => h) hS hR0 (Yld.nilCheck hS rfl) (by decide) ?_; clear hS; intro aa hS
              refine dA 2 rfl (by kernel_rfl) (by kernel_rfl) (by kernel_rfl) (fun _ _ _ h => h) hS hR0 (Yld.fieldAddr hS rfl 1 Try.underlying70 rfl rfl info26 (by decide)) (by decide) ?_; clear hS; intro aa hS
              refine dA 3 rfl (by kernel_rfl) (by kernel_rfl) (by kernel_rfl) (fun _ _ _ h => h) hS hR0 (Yld.load1 hS rfl Try.underlying26 rfl (by first | exact Rd.blk (by repeat (first | with_reducible exact Pk.here | with_reducible apply Pk.there)) (by rfl) | exact Rd.rec (by repeat (first | with_reducible exact Pk.here | with_reducible apply Pk.there)) (by intro _; rfl) (by omega) rfl | exact Rd.rec0 (by repeat (first | with_reducible exact Pk.here | with_reducible apply Pk.there)) (by intro _; rfl) (by omega) rfl | exact Rd.flatJ (by repeat (first | with_reducible exact Pk.here | with_reducible apply Pk.there)) (by intro _; rfl) (by omega) rfl | exact Rd.flat0 (by repeat (first | with_reducible exact Pk.here | with_reducible apply Pk.there)) (by intro _; rfl) (by omega) rfl)) (by decide) ?_; clear hS; intro aa hS
              refine dA 4 rfl (by kernel_rfl) (by kernel_rfl) (by kernel_rfl) (fun _ _ _ h => h) hS hR0 (Yld.move hS rfl) (by decide) ?_; clear hS; intro aa hS
              refine dA 5 rfl (by kernel_rfl) (by kernel_rfl) (by kernel_rfl) (fun _ _ _ h => h) hS hR0 (Yld.move hS rfl) (by decide) ?_; clear hS; intro aa hS
              refine dA 7 rfl (by kernel_rfl) (by kernel_rfl) (by kernel_rfl) (fun _ _ _ h => h) hS hR0 (Yld.move hS rfl) (by decide) ?_; clear hS; intro aa hS
              refine dA 8 rfl (by kernel_rfl) (by kernel_rfl) (by kernel_rfl) (fun _ _ _ h => h) hS hR0 (Yld.nilCheck hS rfl) (by decide) ?_; clear hS; intro aa hS
              refine dA 9 rfl (by kernel_rfl) (by kernel_rfl) (by kernel_rfl) (fun _ _ _ h => h) hS hR0 (Yld.fieldAddr hS rfl 1 Try.underlying70 rfl rfl info26 (by decide)) (by decide) ?_; clear hS; intro aa hS
              refine dA 10 rfl (by kernel_rfl) (by kernel_rfl) (by kernel_rfl) (fun _ _ _ h => h) hS hR0 (Yld.load1 hS rfl Try.underlying26 rfl (by first | exact Rd.blk (by repeat (first | with_reducible exact Pk.here | with_reducible apply Pk.there)) (by rfl) | exact Rd.rec (by repeat (first | with_reducible exact Pk.here | with_reducible apply Pk.there)) (by intro _; rfl) (by omega) rfl | exact Rd.rec0 (by repeat (first | with_reducible exact Pk.here | with_reducible apply Pk.there)) (by intro _; rfl) (by omega) rfl | exact Rd.flatJ (by repeat (first | with_reducible exact Pk.here | with_reducible apply Pk.there)) (by intro _; rfl) (by omega) rfl | exact Rd.flat0 (by repeat (first | with_reducible exact Pk.here | with_reducible apply Pk.there)) (by intro _; rfl) (by omega) rfl)) (by decide) ?_; clear hS; intro aa hS
              refine dA 11 rfl (by kernel_rfl) (by kernel_rfl) (by kernel_rfl) (fun _ _ _ h => h) hS hR0 (Yld.move hS rfl) (by decide) ?_; clear hS; intro aa hS
              refine dA 12 rfl (by kernel_rfl) (by kernel_rfl) (by kernel_rfl) (fun _ _ _ h => h) hS hR0 ((by first | exact Yld.indexH (sz := 1) (x0) hS rfl rfl Try.underlying26 info27 (by assumption) rfl (by first | rfl | omega) (by omega) | exact Yld.indexL (sz := 1) (x0) hS rfl rfl Try.underlying26 info27 (by repeat (first | with_reducible exact Pk.here | with_reducible apply Pk.there)) rfl (by first | rfl | omega) (by omega) | exact Yld.indexB (sz := 1) (x0) hS rfl rfl Try.underlying26 info27 rfl (by first | rfl | omega) (by omega))) (by decide) ?_; clear hS; intro aa hS
              refine dTwo (i := 6) (j := 13) (by kernel_rfl) ?_ ?_
              ·
                refine dop rfl (BbuildSlice hS hR rfl (bls27_1_0 _) (by decide) ?_); clear hS hR hR0; intro aa ww bb49 hS hR
                refine dnext (hR.sub (by repeat (first | with_reducible exact Ex.refl | (with_reducible apply Ex.take; · repeat (first | with_reducible exact Pk.here | with_reducible apply Pk.there)) | with_reducible apply Ex.drop))) ?_; intro hR0
                replace hR := hR.pk (r := blk bb49 _ _) (by repeat (first | with_reducible exact Pk.here | with_reducible apply Pk.there))
                replace hR := Sep.toRecs (m := 1) (sz := 1) (enc := e1) ([(y0 : Int)]) hR rfl (by intro _; rfl) rfl
                refine dOne (i := 13) (by kernel_rfl) ?_
                refine dop rfl (BA hS hR (Yld.load1 hS rfl Try.underlying27 rfl (Rd.rec0 (k := x0) (xs := ys) (v := .slice rr zs.length cr) (by repeat (first | with_reducible exact Pk.here | with_reducible apply Pk.there)) (by intro _; rfl) (by omega) (by rw [(List.getElem?_eq_some_iff.1 hrow).2]; rfl))) (by decide) ?_); clear hS; intro aa hS; refine ⟨hR0, ?_⟩
                refine dOne (i := 14) (by kernel_rfl) ?_
                refine dop rfl (BappendR (sz := 1) hS hR rfl rfl Try.underlying27 info3 rfl rfl (by rfl) (by repeat (first | with_reducible exact Pk.here | with_reducible apply Pk.there)) (XC.row (by repeat (first | with_reducible exact Pk.here | with_reducible apply Pk.there)) hrow) (by intro _; rfl) (by show (_ + _) * 8 ≤ _; first | omega | (simp only [List.length_take, List.length_append, List.length_drop, List.length_cons, List.length_nil, List.length_map]; omega)) (by first | omega | (simp only [List.length_take, List.length_append, List.length_drop, List.length_cons, List.length_nil, List.length_map]; omega)) (by first | rfl | (simp; done) | (simp; omega)) (by decide) ?_); clear hS hR hR0; intro aa ww r57 c57 hS hR
                refine dnext (hR.sub (by repeat (first | with_reducible exact Ex.refl | (with_reducible apply Ex.take; · repeat (first | with_reducible exact Pk.here | with_reducible apply Pk.there)) | with_reducible apply Ex.drop))) ?_; intro hR0
                refine dA 15 rfl (by kernel_rfl) (by kernel_rfl) (by kernel_rfl) (fun _ _ _ h => h) hS hR0 ((by first | exact Yld.indexH (sz := 1) (x0) hS rfl rfl Try.underlying26 info27 (by assumption) rfl (by first | rfl | omega) (by omega) | exact Yld.indexL (sz := 1) (x0) hS rfl rfl Try.underlying26 info27 (by repeat (first | with_reducible exact Pk.here | with_reducible apply Pk.there)) rfl (by first | rfl | omega) (by omega) | exact Yld.indexB (sz := 1) (x0) hS rfl rfl Try.underlying26 info27 rfl (by first | rfl | omega) (by omega))) (by decide) ?_; clear hS; intro aa hS
                refine dOne (i := 16) (by kernel_rfl) ?_
                refine dop rfl (BstoreR0 (((r57, c57), [(y0 : Int)] ++ zs)) hS hR rfl rfl (by rfl) info27 (by rfl) (by repeat (first | with_reducible exact Pk.here | with_reducible apply Pk.there)) (by rfl) (by intro _; rfl) (by omega) (by first | exact Nat.le_of_ble_eq_true rfl | (simp only [List.length_singleton]; omega)) (Nat.le_of_ble_eq_true rfl) (by rfl) ?_); clear hR hR0; intro ww hR
                refine dnext (hR.sub (by repeat (first | with_reducible exact Ex.refl | (with_reducible apply Ex.take; · repeat (first | with_reducible exact Pk.here | with_reducible apply Pk.there)) | with_reducible apply Ex.drop))) ?_; intro hR0
                replace hR := Sep.rowPut (TI := 3) (i := x0) (xs := [(y0 : Int)] ++ zs) ((hR.pk (r := sls r57 _ _ _ _ _) (by repeat (first | with_reducible exact Pk.here | with_reducible apply Pk.there))).pk (r := rowsH _ _) (by repeat (first | with_reducible exact Pk.here | with_reducible apply Pk.there))) (by simp) (by omega)
                refine wpAnyH_done (by kernel_rfl) ?_ _; clear hR0
                refine hK475 _ _ ?_
                refine wp_seq_k ?_; intro K477 hK477
                refine wp_region_lit ?_
                refine sA hS hR (Yld.assign hS rfl) (by decide) ?_; clear hS; intro aa hS
                refine wpList_nil ?_
                refine hK477 _ _ ?_
                refine wp_ret ?_
                repeat (first | with_reducible refine thenR ?_ | with_reducible refine blockR ?_ | with_reducible refine scopeR ?_)
                refine ret1 (fn := Try.f37) (e := .ret) (.inl rfl) Try.results37 hS hR ⟨_, (.tmp rfl), ?_⟩
                have he : addE S n L x0 y0 = 0 := addE_new hx hy hno
                refine ⟨by rw [he], ?_⟩
                exact Sep.refI (TR := 70) (TS := 27) (TI := 3) (S := S) (b2 := b2) (n := n) (m := ys.length) (hys.set (k := x0) (M := y0 :: L x0) (p := (r57, c57)) (xs := [(y0 : Int)] ++ zs) hx (by rw [← hzs]; simp [cst])) (by rw [addS_new hx hy hno, if_pos hg]; rfl) (by simp) (hR.sub (by repeat (first | with_reducible exact Ex.refl | (with_reducible apply Ex.take; · repeat (first | with_reducible exact Pk.here | with_reducible apply Pk.there)) | with_reducible apply Ex.drop)))
              ·
                refine dop rfl (BA hS hR (Yld.load1 hS rfl Try.underlying27 rfl (Rd.rec0 (k := x0) (xs := ys) (v := .slice rr zs.length cr) (by repeat (first | with_reducible exact Pk.here | with_reducible apply Pk.there)) (by intro _; rfl) (by omega) (by rw [(List.getElem?_eq_some_iff.1 hrow).2]; rfl))) (by decide) ?_); clear hS; intro aa hS; refine ⟨hR0, ?_⟩
                refine dOne (i := 6) (by kernel_rfl) ?_
                refine dop rfl (BbuildSlice hS hR rfl (bls27_1_0 _) (by decide) ?_); clear hS hR hR0; intro aa ww bb49 hS hR
                refine dnext (hR.sub (by repeat (first | with_reducible exact Ex.refl | (with_reducible apply Ex.take; · repeat (first | with_reducible exact Pk.here | with_reducible apply Pk.there)) | with_reducible apply Ex.drop))) ?_; intro hR0
                replace hR := hR.pk (r := blk bb49 _ _) (by repeat (first | with_reducible exact Pk.here | with_reducible apply Pk.there))
                replace hR := Sep.toRecs (m := 1) (sz := 1) (enc := e1) ([(y0 : Int)]) hR rfl (by intro _; rfl) rfl
                refine dOne (i := 14) (by kernel_rfl) ?_
                refine dop rfl (BappendR (sz := 1) hS hR rfl rfl Try.underlying27 info3 rfl rfl (by rfl) (by repeat (first | with_reducible exact Pk.here | with_reducible apply Pk.there)) (XC.row (by repeat (first | with_reducible exact Pk.here | with_reducible apply Pk.there)) hrow) (by intro _; rfl) (by show (_ + _) * 8 ≤ _; first | omega | (simp only [List.length_take, List.length_append, List.length_drop, List.length_cons, List.length_nil, List.length_map]; omega)) (by first | omega | (simp only [List.length_take, List.length_append, List.length_drop, List.length_cons, List.length_nil, List.length_map]; omega)) (by first | rfl | (simp; done) | (simp; omega)) (by decide) ?_); clear hS hR hR0; intro aa ww r57 c57 hS hR
                refine dnext (hR.sub (by repeat (first | with_reducible exact Ex.refl | (with_reducible apply Ex.take; · repeat (first | with_reducible exact Pk.here | with_reducible apply Pk.there)) | with_reducible apply Ex.drop))) ?_; intro hR0
                refine dA 15 rfl (by kernel_rfl) (by kernel_rfl) (by kernel_rfl) (fun _ _ _ h => h) hS hR0 ((by first | exact Yld.indexH (sz := 1) (x0) hS rfl rfl Try.underlying26 info27 (by assumption) rfl (by first | rfl | omega) (by omega) | exact Yld.indexL (sz := 1) (x0) hS rfl rfl Try.underlying26 info27 (by repeat (first | with_reducible exact Pk.here | with_reducible apply Pk.there)) rfl (by first | rfl | omega) (by omega) | exact Yld.indexB (sz := 1) (x0) hS rfl rfl Try.underlying26 info27 rfl (by first | rfl | omega) (by omega))) (by decide) ?_; clear hS; intro aa hS
                refine dOne (i := 16) (by kernel_rfl) ?_
                refine dop rfl (BstoreR0 (((r57, c57), [(y0 : Int)] ++ zs)) hS hR rfl rfl (by rfl) info27 (by rfl) (by repeat (first | with_reducible exact Pk.here | with_reducible apply Pk.there)) (by rfl) (by intro _; rfl) (by omega) (by first | exact Nat.le_of_ble_eq_true rfl | (simp only [List.length_singleton]; omega)) (Nat.le_of_ble_eq_true rfl) (by rfl) ?_); clear hR hR0; intro ww hR
                refine dnext (hR.sub (by repeat (first | with_reducible exact Ex.refl | (with_reducible apply Ex.take; · repeat (first | with_reducible exact Pk.here | with_reducible apply Pk.there)) | with_reducible apply Ex.drop))) ?_; intro hR0
                replace hR := Sep.rowPut (TI := 3) (i := x0) (xs := [(y0 : Int)] ++ zs) ((hR.pk (r := sls r57 _ _ _ _ _) (by repeat (first | with_reducible exact Pk.here | with_reducible apply Pk.there))).pk (r := rowsH _ _) (by repeat (first | with_reducible exact Pk.here | with_reducible apply Pk.there))) (by simp) (by omega)
                refine wpAnyH_done (by kernel_rfl) ?_ _; clear hR0
                refine hK475 _ _ ?_
                refine wp_seq_k ?_; intro K478 hK478
                refine wp_region_lit ?_
                refine sA hS hR (Yld.assign hS rfl) (by decide) ?_; clear hS; intro aa hS
                refine wpList_nil ?_
                refine hK478 _ _ ?_
                refine wp_ret ?_
                repeat (first | with_reducible refine thenR ?_ | with_reducible refine blockR ?_ | with_reducible refine scopeR ?_)
                refine ret1 (fn := Try.f37) (e := .ret) (.inl rfl) Try.results37 hS hR ⟨_, (.tmp rfl), ?_⟩
                have he : addE S n L x0 y0 = 0 := addE_new hx hy hno
                refine ⟨by rw [he], ?_⟩
                exact Sep.refI (TR := 70) (TS := 27) (TI := 3) (S := S) (b2 := b2) (n := n) (m := ys.length) (hys.set (k := x0) (M := y0 :: L x0) (p := (r57, c57)) (xs := [(y0 : Int)] ++ zs) hx (by rw [← hzs]; simp [cst])) (by rw [addS_new hx hy hno, if_pos hg]; rfl) (by simp) (hR.sub (by repeat (first | with_reducible exact Ex.refl | (with_reducible apply Ex.take; · repeat (first | with_reducible exact Pk.here | with_reducible apply Pk.there)) | with_reducible apply Ex.drop)))
            · intro hg hS
              refine condF hS rfl ?_
              refine drawn (by kernel_rfl) hR (Ex.of_pk (r := sls r2 _ _ _ _ _) (by repeat (first | with_reducible exact Pk.here | with_reducible apply Pk.there))) ?_; clear hR; intro ww hR hR0
              refine dA 0 rfl (by kernel_rfl) (by kernel_rfl) (by kernel_rfl) (fun _ _ _ h => h) hS hR0 (Yld.move hS rfl) (by decide) ?_; clear hS; intro aa hS
              refine dA 1 rfl (by kernel_rfl) (by kernel_rfl) (by kernel_rfl) (fun _ _ _ h => h) hS hR0 (Yld.nilCheck hS rfl) (by decide) ?_; clear hS; intro aa hS
              refine dA 2 rfl (by kernel_rfl) (by kernel_rfl) (by kernel_rfl) (fun _ _ _ h => h) hS hR0 (Yld.fieldAddr hS rfl 1 Try.underlying70 rfl rfl info26 (by decide)) (by decide) ?_; clear hS; intro aa hS
              refine dA 3 rfl (by kernel_rfl) (by kernel_rfl) (by kernel_rfl) (fun _ _ _ h => h) hS hR0 (Yld.load1 hS rfl Try.underlying26 rfl (by first | exact Rd.blk (by repeat (first | with_reducible exact Pk.here | with_reducible apply Pk.there)) (by rfl) | exact Rd.rec (by repeat (first | with_reducible exact Pk.here | with_reducible apply Pk.there)) (by intro _; rfl) (by omega) rfl | exact Rd.rec0 (by repeat (first | with_reducible exact Pk.here | with_reducible apply Pk.there)) (by intro _; rfl) (by omega) rfl | exact Rd.flatJ (by repeat (first | with_reducible exact Pk.here | with_reducible apply Pk.there)) (by intro _; rfl) (by omega) rfl | exact Rd.flat0 (by repeat (first | with_reducible exact Pk.here | with_reducible apply Pk.there)) (by intro _; rfl) (by omega) rfl)) (by decide) ?_; clear hS; intro aa hS
              refine dA 4 rfl (by kernel_rfl) (by kernel_rfl) (by kernel_rfl) (fun _ _ _ h => h) hS hR0 (Yld.move hS rfl) (by decide) ?_; clear hS; intro aa hS
              refine dA 6 rfl (by kernel_rfl) (by kernel_rfl) (by kernel_rfl) (fun _ _ _ h => h) hS hR0 (Yld.move hS rfl) (by decide) ?_; clear hS; intro aa hS
              refine dA 7 rfl (by kernel_rfl) (by kernel_rfl) (by kernel_rfl) (fun _ _ _ h => h) hS hR0 (Yld.nilCheck hS rfl) (by decide) ?_; clear hS; intro aa hS
              refine dA 8 rfl (by kernel_rfl) (by kernel_rfl) (by kernel_rfl) (fun _ _ _ h => h) hS hR0 (Yld.fieldAddr hS rfl 1 Try.underlying70 rfl rfl info26 (by decide)) (by decide) ?_; clear hS; intro aa hS
              refine dA 9 rfl (by kernel_rfl) (by kernel_rfl) (by kernel_rfl) (fun _ _ _ h => h) hS hR0 (Yld.load1 hS rfl Try.underlying26 rfl (by first | exact Rd.blk (by repeat (first | with_reducible exact Pk.here | with_reducible apply Pk.there)) (by rfl) | exact Rd.rec (by repeat (first | with_reducible exact Pk.here | with_reducible apply Pk.there)) (by intro _; rfl) (by omega) rfl | exact Rd.rec0 (by repeat (first | with_reducible exact Pk.here | with_reducible apply Pk.there)) (by intro _; rfl) (by omega) rfl | exact Rd.flatJ (by repeat (first | with_reducible exact Pk.here | with_reducible apply Pk.there)) (by intro _; rfl) (by omega) rfl | exact Rd.flat0 (by repeat (first | with_reducible exact Pk.here | with_reducible apply Pk.there)) (by intro _; rfl) (by omega) rfl)) (by decide) ?_; clear hS; intro aa hS
              refine dA 10 rfl (by kernel_rfl) (by kernel_rfl) (by kernel_rfl) (fun _ _ _ h => h) hS hR0 (Yld.move hS rfl) (by decide) ?_; clear hS; intro aa hS
              refine dA 11 rfl (by kernel_rfl) (by kernel_rfl) (by kernel_rfl) (fun _ _ _ h => h) hS hR0 ((by first | exact Yld.indexH (sz := 1) (x0) hS rfl rfl Try.underlying26 info27 (by assumption) rfl (by first | rfl | omega) (by omega) | exact Yld.indexL (sz := 1) (x0) hS rfl rfl Try.underlying26 info27 (by repeat (first | with_reducible exact Pk.here | with_reducible apply Pk.there)) rfl (by first | rfl | omega) (by omega) | exact Yld.indexB (sz := 1) (x0) hS rfl rfl Try.underlying26 info27 rfl (by first | rfl | omega) (by omega))) (by decide) ?_; clear hS; intro aa hS
              refine dA 14 rfl (by kernel_rfl) (by kernel_rfl) (by kernel_rfl) (fun _ _ _ h => h) hS hR0 (Yld.move hS rfl) (by decide) ?_; clear hS; intro aa hS
              refine dThree (i := 5) (j := 12) (m := 15) (by kernel_rfl) ?_ ?_ ?_
              ·
                refine dop rfl (BbuildSlice hS hR rfl (bls27_0_) (by decide) ?_); clear hS hR hR0; intro aa ww bb64 hS hR
                refine dnext (hR.sub (by repeat (first | with_reducible exact Ex.refl | (with_reducible apply Ex.take; · repeat (first | with_reducible exact Pk.here | with_reducible apply Pk.there)) | with_reducible apply Ex.drop))) ?_; intro hR0
                replace hR := hR.pk (r := blk bb64 _ _) (by repeat (first | with_reducible exact Pk.here | with_reducible apply Pk.there))
                replace hR := Sep.toRecs (m := 0) (sz := 1) (enc := e1) (([] : List Int)) hR rfl (by intro _; rfl) rfl
                refine dTwo (i := 12) (j := 15) (by kernel_rfl) ?_ ?_
                ·
                  refine dop rfl (BA hS hR (Yld.load1 hS rfl Try.underlying27 rfl (Rd.rec0 (k := x0) (xs := ys) (v := .slice rr zs.length cr) (by repeat (first | with_reducible exact Pk.here | with_reducible apply Pk.there)) (by intro _; rfl) (by omega) (by rw [(List.getElem?_eq_some_iff.1 hrow).2]; rfl))) (by decide) ?_); clear hS; intro aa hS; refine ⟨hR0, ?_⟩
                  refine dTwo (i := 13) (j := 15) (by kernel_rfl) ?_ ?_
                  ·
                    refine dop rfl (BappendR (sz := 1) hS hR rfl rfl Try.underlying27 info3 rfl rfl (by rfl) (by repeat (first | with_reducible exact Pk.here | with_reducible apply Pk.there)) (XC.row (by repeat (first | with_reducible exact Pk.here | with_reducible apply Pk.there)) hrow) (by intro _; rfl) (by show (_ + _) * 8 ≤ _; first | omega | (simp only [List.length_take, List.length_append, List.length_drop, List.length_cons, List.length_nil, List.length_map]; omega)) (by first | omega | (simp only [List.length_take, List.length_append, List.length_drop, List.length_cons, List.length_nil, List.length_map]; omega)) (by first | rfl | (simp; done) | (simp; omega)) (by decide) ?_); clear hS hR hR0; intro aa ww r72 c72 hS hR
                    refine dnext (hR.sub (by repeat (first | with_reducible exact Ex.refl | (with_reducible apply Ex.take; · repeat (first | with_reducible exact Pk.here | with_reducible apply Pk.there)) | with_reducible apply Ex.drop))) ?_; intro hR0
                    refine dOne (i := 15) (by kernel_rfl) ?_
                    refine dop rfl (BbuildSlice hS hR rfl (bls27_1_0 _) (by decide) ?_); clear hS hR hR0; intro aa ww bb74 hS hR
                    refine dnext (hR.sub (by repeat (first | with_reducible exact Ex.refl | (with_reducible apply Ex.take; · repeat (first | with_reducible exact Pk.here | with_reducible apply Pk.there)) | with_reducible apply Ex.drop))) ?_; intro hR0
                    replace hR := hR.pk (r := blk bb74 _ _) (by repeat (first | with_reducible exact Pk.here | with_reducible apply Pk.there))
                    replace hR := Sep.toRecs (m := 1) (sz := 1) (enc := e1) ([(y0 : Int)]) hR rfl (by intro _; rfl) rfl
                    refine dOne (i := 16) (by kernel_rfl) ?_
                    refine dop rfl (BappendR (sz := 1) hS hR rfl rfl Try.underlying27 info3 rfl rfl (by rfl) (by repeat (first | with_reducible exact Pk.here | with_reducible apply Pk.there)) (XC.all (by repeat (first | with_reducible exact Pk.here | with_reducible apply Pk.there))) (by intro _; rfl) (by show (_ + _) * 8 ≤ _; first | omega | (simp only [List.length_take, List.length_append, List.length_drop, List.length_cons, List.length_nil, List.length_map]; omega)) (by first | omega | (simp only [List.length_take, List.length_append, List.length_drop, List.length_cons, List.length_nil, List.length_map]; omega)) (by first | rfl | (simp; done) | (simp; omega)) (by decide) ?_); clear hS hR hR0; intro aa ww r75 c75 hS hR
                    refine dnext (hR.sub (by repeat (first | with_reducible exact Ex.refl | (with_reducible apply Ex.take; · repeat (first | with_reducible exact Pk.here | with_reducible apply Pk.there)) | with_reducible apply Ex.drop))) ?_; intro hR0
                    refine dA 17 rfl (by kernel_rfl) (by kernel_rfl) (by kernel_rfl) (fun _ _ _ h => h) hS hR0 ((by first | exact Yld.indexH (sz := 1) (x0) hS rfl rfl Try.underlying26 info27 (by assumption) rfl (by first | rfl | omega) (by omega) | exact Yld.indexL (sz := 1) (x0) hS rfl rfl Try.underlying26 info27 (by repeat (first | with_reducible exact Pk.here | with_reducible apply Pk.there)) rfl (by first | rfl | omega) (by omega) | exact Yld.indexB (sz := 1) (x0) hS rfl rfl Try.underlying26 info27 rfl (by first | rfl | omega) (by omega))) (by decide) ?_; clear hS; intro aa hS
                    refine dOne (i := 18) (by kernel_rfl) ?_
                    refine dop rfl (BstoreR0 (((r75, c75), ([] ++ zs) ++ [(y0 : Int)])) hS hR rfl rfl (by rfl) info27 (by rfl) (by repeat (first | with_reducible exact Pk.here | with_reducible apply Pk.there)) (by rfl) (by intro _; rfl) (by omega) (by first | exact Nat.le_of_ble_eq_true rfl | (simp only [List.length_singleton]; omega)) (Nat.le_of_ble_eq_true rfl) (by rfl) ?_); clear hR hR0; intro ww hR
                    refine dnext (hR.sub (by repeat (first | with_reducible exact Ex.refl | (with_reducible apply Ex.take; · repeat (first | with_reducible exact Pk.here | with_reducible apply Pk.there)) | with_reducible apply Ex.drop))) ?_; intro hR0
                    replace hR := Sep.rowPut (TI := 3) (i := x0) (xs := ([] ++ zs) ++ [(y0 : Int)]) ((hR.pk (r := sls r75 _ _ _ _ _) (by repeat (first | with_reducible exact Pk.here | with_reducible apply Pk.there))).pk (r := rowsH _ _) (by repeat (first | with_reducible exact Pk.here | with_reducible apply Pk.there))) (by simp) (by omega)
                    refine wpAnyH_done (by kernel_rfl) ?_ _; clear hR0
                    refine hK475 _ _ ?_
                    refine wp_seq_k ?_; intro K479 hK479
                    refine wp_region_lit ?_
                    refine sA hS hR (Yld.assign hS rfl) (by decide) ?_; clear hS; intro aa hS
                    refine wpList_nil ?_
                    refine hK479 _ _ ?_
                    refine wp_ret ?_
                    repeat (first | with_reducible refine thenR ?_ | with_reducible refine blockR ?_ | with_reducible refine scopeR ?_)
                    refine ret1 (fn := Try.f37) (e := .ret) (.inl rfl) Try.results37 hS hR ⟨_, (.tmp rfl), ?_⟩
                    have he : addE S n L x0 y0 = 0 := addE_new hx hy hno
                    refine ⟨by rw [he], ?_⟩
                    exact Sep.refI (TR := 70) (TS := 27) (TI := 3) (S := S) (b2 := b2) (n := n) (m := ys.length) (hys.set (k := x0) (M := L x0 ++ [y0]) (p := (r75, c75)) (xs := ([] ++ zs) ++ [(y0 : Int)]) hx (by rw [← hzs]; simp [cst])) (by rw [addS_new hx hy hno, if_neg (by simp [hg])]; rfl) (by simp) (hR.sub (by repeat (first | with_reducible exact Ex.refl | (with_reducible apply Ex.take; · repeat (first | with_reducible exact Pk.here | with_reducible apply Pk.there)) | with_reducible apply Ex.drop)))
                  ·
                    refine dop rfl (BbuildSlice hS hR rfl (bls27_1_0 _) (by decide) ?_); clear hS hR hR0; intro aa ww bb74 hS hR
                    refine dnext (hR.sub (by repeat (first | with_reducible exact Ex.refl | (with_reducible apply Ex.take; · repeat (first | with_reducible exact Pk.here | with_reducible apply Pk.there)) | with_reducible apply Ex.drop))) ?_; intro hR0
                    replace hR := hR.pk (r := blk bb74 _ _) (by repeat (first | with_reducible exact Pk.here | with_reducible apply Pk.there))
                    replace hR := Sep.toRecs (m := 1) (sz := 1) (enc := e1) ([(y0 : Int)]) hR rfl (by intro _; rfl) rfl
                    refine dOne (i := 13) (by kernel_rfl) ?_
                    refine dop rfl (BappendR (sz := 1) hS hR rfl rfl Try.underlying27 info3 rfl rfl (by rfl) (by repeat (first | with_reducible exact Pk.here | with_reducible apply Pk.there)) (XC.row (by repeat (first | with_reducible exact Pk.here | with_reducible apply Pk.there)) hrow) (by intro _; rfl) (by show (_ + _) * 8 ≤ _; first | omega | (simp only [List.length_take, List.length_append, List.length_drop, List.length_cons, List.length_nil, List.length_map]; omega)) (by first | omega | (simp only [List.length_take, List.length_append, List.length_drop, List.length_cons, List.length_nil, List.length_map]; omega)) (by first | rfl | (simp; done) | (simp; omega)) (by decide) ?_); clear hS hR hR0; intro aa ww r72 c72 hS hR
                    refine dnext (hR.sub (by repeat (first | with_reducible exact Ex.refl | (with_reducible apply Ex.take; · repeat (first | with_reducible exact Pk.here | with_reducible apply Pk.there)) | with_reducible apply Ex.drop))) ?_; intro hR0
                    refine dOne (i := 16) (by kernel_rfl) ?_
                    refine dop rfl (BappendR (sz := 1) hS hR rfl rfl Try.underlying27 info3 rfl rfl (by rfl) (by repeat (first | with_reducible exact Pk.here | with_reducible apply Pk.there)) (XC.all (by repeat (first | with_reducible exact Pk.here | with_reducible apply Pk.there))) (by intro _; rfl) (by show (_ + _) * 8 ≤ _; first | omega | (simp only [List.length_take, List.length_append, List.length_drop, List.length_cons, List.length_nil, List.length_map]; omega)) (by first | omega | (simp only [List.length_take, List.length_append, List.length_drop, List.length_cons, List.length_nil, List.length_map]; omega)) (by first | rfl | (simp; done) | (simp; omega)) (by decide) ?_); clear hS hR hR0; intro aa ww r75 c75 hS hR
                    refine dnext (hR.sub (by repeat (first | with_reducible exact Ex.refl | (with_reducible apply Ex.take; · repeat (first | with_reducible exact Pk.here | with_reducible apply Pk.there)) | with_reducible apply Ex.drop))) ?_; intro hR0
                    refine dA 17 rfl (by kernel_rfl) (by kernel_rfl) (by kernel_rfl) (fun _ _ _ h => h) hS hR0 ((by first | exact Yld.indexH (sz := 1) (x0) hS rfl rfl Try.underlying26 info27 (by assumption) rfl (by first | rfl | omega) (by omega) | exact Yld.indexL (sz := 1) (x0) hS rfl rfl Try.underlying26 info27 (by repeat (first | with_reducible exact Pk.here | with_reducible apply Pk.there)) rfl (by first | rfl | omega) (by omega) | exact Yld.indexB (sz := 1) (x0) hS rfl rfl Try.underlying26 info27 rfl (by first | rfl | omega) (by omega))) (by decide) ?_; clear hS; intro aa hS
                    refine dOne (i := 18) (by kernel_rfl) ?_
                    refine dop rfl (BstoreR0 (((r75, c75), ([] ++ zs) ++ [(y0 : Int)])) hS hR rfl rfl (by rfl) info27 (by rfl) (by repeat (first | with_reducible exact Pk.here | with_reducible apply Pk.there)) (by rfl) (by intro _; rfl) (by omega) (by first | exact Nat.le_of_ble_eq_true rfl | (simp only [List.length_singleton]; omega)) (Nat.le_of_ble_eq_true rfl) (by rfl) ?_); clear hR hR0; intro ww hR
                    refine dnext (hR.sub (by repeat (first | with_reducible exact Ex.refl | (with_reducible apply Ex.take; · repeat (first | with_reducible exact Pk.here | with_reducible apply Pk.there)) | with_reducible apply Ex.drop))) ?_; intro hR0
                    replace hR := Sep.rowPut (TI := 3) (i := x0) (xs := ([] ++ zs) ++ [(y0 : Int)]) ((hR.pk (r := sls r75 _ _ _ _ _) (by repeat (first | with_reducible exact Pk.here | with_reducible apply Pk.there))).pk (r := rowsH _ _) (by repeat (first | with_reducible exact Pk.here | with_reducible apply Pk.there))) (by simp) (by omega)
                    refine wpAnyH_done (by kernel_rfl) ?_ _; clear hR0
                    refine hK475 _ _ ?_
                    refine wp_seq_k ?_; intro K480 hK480
                    refine wp_region_lit ?_
                    refine sA hS hR (Yld.assign hS rfl) (by decide) ?_; clear hS; intro aa hS
                    refine wpList_nil ?_
                    refine hK480 _ _ ?_
                    refine wp_ret ?_
                    repeat (first | with_reducible refine thenR ?_ | with_reducible refine blockR ?_ | with_reducible refine scopeR ?_)
                    refine ret1 (fn := Try.f37) (e := .ret) (.inl rfl) Try.results37 hS hR ⟨_, (.tmp rfl), ?_⟩
                    have he : addE S n L x0 y0 = 0 := addE_new hx hy hno
                    refine ⟨by rw [he], ?_⟩
                    exact Sep.refI (TR := 70) (TS := 27) (TI := 3) (S := S) (b2 := b2) (n := n) (m := ys.length) (hys.set (k := x0) (M := L x0 ++ [y0]) (p := (r75, c75)) (xs := ([] ++ zs) ++ [(y0 : Int)]) hx (by rw [← hzs]; simp [cst])) (by rw [addS_new hx hy hno, if_neg (by simp [hg])]; rfl) (by simp) (hR.sub (by repeat (first | with_reducible exact Ex.refl | (with_reducible apply Ex.take; · repeat (first | with_reducible exact Pk.here | with_reducible apply Pk.there)) | with_reducible apply Ex.drop)))
                ·
                  refine dop rfl (BbuildSlice hS hR rfl (bls27_1_0 _) (by decide) ?_); clear hS hR hR0; intro aa ww bb74 hS hR
                  refine dnext (hR.sub (by repeat (first | with_reducible exact Ex.refl | (with_reducible apply Ex.take; · repeat (first | with_reducible exact Pk.here | with_reducible apply Pk.there)) | with_reducible apply Ex.drop))) ?_; intro hR0
                  replace hR := hR.pk (r := blk bb74 _ _) (by repeat (first | with_reducible exact Pk.here | with_reducible apply Pk.there))
                  replace hR := Sep.toRecs (m := 1) (sz := 1) (enc := e1) ([(y0 : Int)]) hR rfl (by intro _; rfl) rfl
                  refine dOne (i := 12) (by kernel_rfl) ?_
                  refine dop rfl (BA hS hR (Yld.load1 hS rfl Try.underlying27 rfl (Rd.rec0 (k := x0) (xs := ys) (v := .slice rr zs.length cr) (by repeat (first | with_reducible exact Pk.here | with_reducible apply Pk.there)) (by intro _; rfl) (by omega) (by rw [(List.getElem?_eq_some_iff.1 hrow).2]; rfl))) (by decide) ?_); clear hS; intro aa hS; refine ⟨hR0, ?_⟩
                  refine dOne (i := 13) (by kernel_rfl) ?_
                  refine dop rfl (BappendR (sz := 1) hS hR rfl rfl Try.underlying27 info3 rfl rfl (by rfl) (by repeat (first | with_reducible exact Pk.here | with_reducible apply Pk.there)) (XC.row (by repeat (first | with_reducible exact Pk.here | with_reducible apply Pk.there)) hrow) (by intro _; rfl) (by show (_ + _) * 8 ≤ _; first | omega | (simp only [List.length_take, List.length_append, List.length_drop, List.length_cons, List.length_nil, List.length_map]; omega)) (by first | omega | (simp only [List.length_take, List.length_append, List.length_drop, List.length_cons, List.length_nil, List.length_map]; omega)) (by first | rfl | (simp; done) | (simp; omega)) (by decide) ?_); clear hS hR hR0; intro aa ww r72 c72 hS hR
                  refine dnext (hR.sub (by repeat (first | with_reducible exact Ex.refl | (with_reducible apply Ex.take; · repeat (first | with_reducible exact Pk.here | with_reducible apply Pk.there)) | with_reducible apply Ex.drop))) ?_; intro hR0
                  refine dOne (i := 16) (by kernel_rfl) ?_
                  refine dop rfl (BappendR (sz := 1) hS hR rfl rfl Try.underlying27 info3 rfl rfl (by rfl) (by repeat (first | with_reducible exact Pk.here | with_reducible apply Pk.there)) (XC.all (by repeat (first | with_reducible exact Pk.here | with_reducible apply Pk.there))) (by intro _; rfl) (by show (_ + _) * 8 ≤ _; first | omega | (simp only [List.length_take, List.length_append, List.length_drop, List.length_cons, List.length_nil, List.length_map]; omega)) (by first | omega | (simp only [List.length_take, List.length_append, List.length_drop, List.length_cons, List.length_nil, List.length_map]; omega)) (by first | rfl | (simp; done) | (simp; omega)) (by decide) ?_); clear hS hR hR0; intro aa ww r75 c75 hS hR
                  refine dnext (hR.sub (by repeat (first | with_reducible exact Ex.refl | (with_reducible apply Ex.take; · repeat (first | with_reducible exact Pk.here | with_reducible apply Pk.there)) | with_reducible apply Ex.drop))) ?_; intro hR0
                  refine dA 17 rfl (by kernel_rfl) (by kernel_rfl) (by kernel_rfl) (fun _ _ _ h => h) hS hR0 ((by first | exact Yld.indexH (sz := 1) (x0) hS rfl rfl Try.underlying26 info27 (by assumption) rfl (by first | rfl | omega) (by omega) | exact Yld.indexL (sz := 1) (x0) hS rfl rfl Try.underlying26 info27 (by repeat (first | with_reducible exact Pk.here | with_reducible apply Pk.there)) rfl (by first | rfl | omega) (by omega) | exact Yld.indexB (sz := 1) (x0) hS rfl rfl Try.underlying26 info27 rfl (by first | rfl | omega) (by omega))) (by decide) ?_; clear hS; intro aa hS
                  refine dOne (i := 18) (by kernel_rfl) ?_
                  refine dop rfl (BstoreR0 (((r75, c75), ([] ++ zs) ++ [(y0 : Int)])) hS hR rfl rfl (by rfl) info27 (by rfl) (by repeat (first | with_reducible exact Pk.here | with_reducible apply Pk.there)) (by rfl) (by intro _; rfl) (by omega) (by first | exact Nat.le_of_ble_eq_true rfl | (simp only [List.length_singleton]; omega)) (Nat.le_of_ble_eq_true rfl) (by rfl) ?_); clear hR hR0; intro ww hR
                  refine dnext (hR.sub (by repeat (first | with_reducible exact Ex.refl | (with_reducible apply Ex.take; · repeat (first | with_reducible exact Pk.here | with_reducible apply Pk.there)) | with_reducible apply Ex.drop))) ?_; intro hR0
                  replace hR := Sep.rowPut (TI := 3) (i := x0) (xs := ([] ++ zs) ++ [(y0 : Int)]) ((hR.pk (r := sls r75 _ _ _ _ _) (by repeat (first | with_reducible exact Pk.here | with_reducible apply Pk.there))).pk (r := rowsH _ _) (by repeat (first | with_reducible exact Pk.here | with_reducible apply Pk.there))) (by simp) (by omega)
                  refine wpAnyH_done (by kernel_rfl) ?_ _; clear hR0
                  refine hK475 _ _ ?_
                  refine wp_seq_k ?_; intro K481 hK481
                  refine wp_region_lit ?_
                  refine sA hS hR (Yld.assign hS rfl) (by decide) ?_; clear hS; intro aa hS
                  refine wpList_nil ?_
                  refine hK481 _ _ ?_
                  refine wp_ret ?_
                  repeat (first | with_reducible refine thenR ?_ | with_reducible refine blockR ?_ | with_reducible refine scopeR ?_)
                  refine ret1 (fn := Try.f37) (e := .ret) (.inl rfl) Try.results37 hS hR ⟨_, (.tmp rfl), ?_⟩
                  have he : addE S n L x0 y0 = 0 := addE_new hx hy hno
                  refine ⟨by rw [he], ?_⟩
                  exact Sep.refI (TR := 70) (TS := 27) (TI := 3) (S := S) (b2 := b2) (n := n) (m := ys.length) (hys.set (k := x0) (M := L x0 ++ [y0]) (p := (r75, c75)) (xs := ([] ++ zs) ++ [(y0 : Int)]) hx (by rw [← hzs]; simp [cst])) (by rw [addS_new hx hy hno, if_neg (by simp [hg])]; rfl) (by simp) (hR.sub (by repeat (first | with_reducible exact Ex.refl | (with_reducible apply Ex.take; · repeat (first | with_reducible exact Pk.here | with_reducible apply Pk.there)) | with_reducible apply Ex.drop)))
              ·
                refine dop rfl (BA hS hR (Yld.load1 hS rfl Try.underlying27 rfl (Rd.rec0 (k := x0) (xs := ys) (v := .slice rr zs.length cr) (by repeat (first | with_reducible exact Pk.here | with_reducible apply Pk.there)) (by intro _; rfl) (by omega) (by rw [(List.getElem?_eq_some_iff.1 hrow).2]; rfl))) (by decide) ?_); clear hS; intro aa hS; refine ⟨hR0, ?_⟩
                refine dTwo (i := 5) (j := 15) (by kernel_rfl) ?_ ?_
                ·
                  refine dop rfl (BbuildSlice hS hR rfl (bls27_0_) (by decide) ?_); clear hS hR hR0; intro aa ww bb64 hS hR
                  refine dnext (hR.sub (by repeat (first | with_reducible exact Ex.refl | (with_reducible apply Ex.take; · repeat (first | with_reducible exact Pk.here | with_reducible apply Pk.there)) | with_reducible apply Ex.drop))) ?_; intro hR0
                  replace hR := hR.pk (r := blk bb64 _ _) (by repeat (first | with_reducible exact Pk.here | with_reducible apply Pk.there))
                  replace hR := Sep.toRecs (m := 0) (sz := 1) (enc := e1) (([] : List Int)) hR rfl (by intro _; rfl) rfl
                  refine dTwo (i := 13) (j := 15) (by kernel_rfl) ?_ ?_
                  ·
                    refine dop rfl (BappendR (sz := 1) hS hR rfl rfl Try.underlying27 info3 rfl rfl (by rfl) (by repeat (first | with_reducible exact Pk.here | with_reducible apply Pk.there)) (XC.row (by repeat (first | with_reducible exact Pk.here | with_reducible apply Pk.there)) hrow) (by intro _; rfl) (by show (_ + _) * 8 ≤ _; first | omega | (simp only [List.length_take, List.length_append, List.length_drop, List.length_cons, List.length_nil, List.length_map]; omega)) (by first | omega | (simp only [List.length_take, List.length_append, List.length_drop, List.length_cons, List.length_nil, List.length_map]; omega)) (by first | rfl | (simp; done) | (simp; omega)) (by decide) ?_); clear hS hR hR0; intro aa ww r72 c72 hS hR
                    refine dnext (hR.sub (by repeat (first | with_reducible exact Ex.refl | (with_reducible apply Ex.take; · repeat (first | with_reducible exact Pk.here | with_reducible apply Pk.there)) | with_reducible apply Ex.drop))) ?_; intro hR0
                    refine dOne (i := 15) (by kernel_rfl) ?_
                    refine dop rfl (BbuildSlice hS hR rfl (bls27_1_0 _) (by decide) ?_); clear hS hR hR0; intro aa ww bb74 hS hR
                    refine dnext (hR.sub (by repeat (first | with_reducible exact Ex.refl | (with_reducible apply Ex.take; · repeat (first | with_reducible exact Pk.here | with_reducible apply Pk.there)) | with_reducible apply Ex.drop))) ?_; intro hR0
                    replace hR := hR.pk (r := blk bb74 _ _) (by repeat (first | with_reducible exact Pk.here | with_reducible apply Pk.there))
                    replace hR := Sep.toRecs (m := 1) (sz := 1) (enc := e1) ([(y0 : Int)]) hR rfl (by intro _; rfl) rfl
                    refine dOne (i := 16) (by kernel_rfl) ?_
                    refine dop rfl (BappendR (sz := 1) hS hR rfl rfl Try.underlying27 info3 rfl rfl (by rfl) (by repeat (first | with_reducible exact Pk.here | with_reducible apply Pk.there)) (XC.all (by repeat (first | with_reducible exact Pk.here | with_reducible apply Pk.there))) (by intro _; rfl) (by show (_ + _) * 8 ≤ _; first | omega | (simp only [List.length_take, List.length_append, List.length_drop, List.length_cons, List.length_nil, List.length_map]; omega)) (by first | omega | (simp only [List.length_take, List.length_append, List.length_drop, List.length_cons, List.length_nil, List.length_map]; omega)) (by first | rfl | (simp; done) | (simp; omega)) (by decide) ?_); clear hS hR hR0; intro aa ww r75 c75 hS hR
                    refine dnext (hR.sub (by repeat (first | with_reducible exact Ex.refl | (with_reducible apply Ex.take; · repeat (first | with_reducible exact Pk.here | with_reducible apply Pk.there)) | with_reducible apply Ex.drop))) ?_; intro hR0
                    refine dA 17 rfl (by kernel_rfl) (by kernel_rfl) (by kernel_rfl) (fun _ _ _ h => h) hS hR0 ((by first | exact Yld.indexH (sz := 1) (x0) hS rfl rfl Try.underlying26 info27 (by assumption) rfl (by first | rfl | omega) (by omega) | exact Yld.indexL (sz := 1) (x0) hS rfl rfl Try.underlying26 info27 (by repeat (first | with_reducible exact Pk.here | with_reducible apply Pk.there)) rfl (by first | rfl | omega) (by omega) | exact Yld.indexB (sz := 1) (x0) hS rfl rfl Try.underlying26 info27 rfl (by first | rfl | omega) (by omega))) (by decide) ?_; clear hS; intro aa hS
                    refine dOne (i := 18) (by kernel_rfl) ?_
                    refine dop rfl (BstoreR0 (((r75, c75), ([] ++ zs) ++ [(y0 : Int)])) hS hR rfl rfl (by rfl) info27 (by rfl) (by repeat (first | with_reducible exact Pk.here | with_reducible apply Pk.there)) (by rfl) (by intro _; rfl) (by omega) (by first | exact Nat.le_of_ble_eq_true rfl | (simp only [List.length_singleton]; omega)) (Nat.le_of_ble_eq_true rfl) (by rfl) ?_); clear hR hR0; intro ww hR
                    refine dnext (hR.sub (by repeat (first | with_reducible exact Ex.refl | (with_reducible apply Ex.take; · repeat (first | with_reducible exact Pk.here | with_reducible apply Pk.there)) | with_reducible apply Ex.drop))) ?_; intro hR0
                    replace hR := Sep.rowPut (TI := 3) (i := x0) (xs := ([] ++ zs) ++ [(y0 : Int)]) ((hR.pk (r := sls r75 _ _ _ _ _) (by repeat (first | with_reducible exact Pk.here | with_reducible apply Pk.there))).pk (r := rowsH _ _) (by repeat (first | with_reducible exact Pk.here | with_reducible apply Pk.there))) (by simp) (by omega)
                    refine wpAnyH_done (by kernel_rfl) ?_ _; clear hR0
                    refine hK475 _ _ ?_
                    refine wp_seq_k ?_; intro K482 hK482
                    refine wp_region_lit ?_
                    refine sA hS hR (Yld.assign hS rfl) (by decide) ?_; clear hS; intro aa hS
                    refine wpList_nil ?_
                    refine hK482 _ _ ?_
                    refine wp_ret ?_
                    repeat (first | with_reducible refine thenR ?_ | with_reducible refine blockR ?_ | with_reducible refine scopeR ?_)
                    refine ret1 (fn := Try.f37) (e := .ret) (.inl rfl) Try.results37 hS hR ⟨_, (.tmp rfl), ?_⟩
                    have he : addE S n L x0 y0 = 0 := addE_new hx hy hno
                    refine ⟨by rw [he], ?_⟩
                    exact Sep.refI (TR := 70) (TS := 27) (TI := 3) (S := S) (b2 := b2) (n := n) (m := ys.length) (hys.set (k := x0) (M := L x0 ++ [y0]) (p := (r75, c75)) (xs := ([] ++ zs) ++ [(y0 : Int)]) hx (by rw [← hzs]; simp [cst])) (by rw [addS_new hx hy hno, if_neg (by simp [hg])]; rfl) (by simp) (hR.sub (by repeat (first | with_reducible exact Ex.refl | (with_reducible apply Ex.take; · repeat (first | with_reducible exact Pk.here | with_reducible apply Pk.there)) | with_reducible apply Ex.drop)))
                  ·
                    refine dop rfl (BbuildSlice hS hR rfl (bls27_1_0 _) (by decide) ?_); clear hS hR hR0; intro aa ww bb74 hS hR
                    refine dnext (hR.sub (by repeat (first | with_reducible exact Ex.refl | (with_reducible apply Ex.take; · repeat (first | with_reducible exact Pk.here | with_reducible apply Pk.there)) | with_reducible apply Ex.drop))) ?_; intro hR0
                    replace hR := hR.pk (r := blk bb74 _ _) (by repeat (first | with_reducible exact Pk.here | with_reducible apply Pk.there))
                    replace hR := Sep.toRecs (m := 1) (sz := 1) (enc := e1) ([(y0 : Int)]) hR rfl (by intro _; rfl) rfl
                    refine dOne (i := 13) (by kernel_rfl) ?_
                    refine dop rfl (BappendR (sz := 1) hS hR rfl rfl Try.underlying27 info3 rfl rfl (by rfl) (by repeat (first | with_reducible exact Pk.here | with_reducible apply Pk.there)) (XC.row (by repeat (first | with_reducible exact Pk.here | with_reducible apply Pk.there)) hrow) (by intro _; rfl) (by show (_ + _) * 8 ≤ _; first | omega | (simp only [List.length_take, List.length_append, List.length_drop, List.length_cons, List.length_nil, List.length_map]; omega)) (by first | omega | (simp only [List.length_take, List.length_append, List.length_drop, List.length_cons, List.length_nil, List.length_map]; omega)) (by first | rfl | (simp; done) | (simp; omega)) (by decide) ?_); clear hS hR hR0; intro aa ww r72 c72 hS hR
                    refine dnext (hR.sub (by repeat (first | with_reducible exact Ex.refl | (with_reducible apply Ex.take; · repeat (first | with_reducible exact Pk.here | with_reducible apply Pk.there)) | with_reducible apply Ex.drop))) ?_; intro hR0
                    refine dOne (i := 16) (by kernel_rfl) ?_
                    refine dop rfl (BappendR (sz := 1) hS hR rfl rfl Try.underlying27 info3 rfl rfl (by rfl) (by repeat (first | with_reducible exact Pk.here | with_reducible apply Pk.there)) (XC.all (by repeat (first | with_reducible exact Pk.here | with_reducible apply Pk.there))) (by intro _; rfl) (by show (_ + _) * 8 ≤ _; first | omega | (simp only [List.length_take, List.length_append, List.length_drop, List.length_cons, List.length_nil, List.length_map]; omega)) (by first | omega | (simp only [List.length_take, List.length_append, List.length_drop, List.length_cons, List.length_nil, List.length_map]; omega)) (by first | rfl | (simp; done) | (simp; omega)) (by decide) ?_); clear hS hR hR0; intro aa ww r75 c75 hS hR
                    refine dnext (hR.sub (by repeat (first | with_reducible exact Ex.refl | (with_reducible apply Ex.take; · repeat (first | with_reducible exact Pk.here | with_reducible apply Pk.there)) | with_reducible apply Ex.drop))) ?_; intro hR0
                    refine dA 17 rfl (by kernel_rfl) (by kernel_rfl) (by kernel_rfl) (fun _ _ _ h => h) hS hR0 ((by first | exact Yld.indexH (sz := 1) (x0) hS rfl rfl Try.underlying26 info27 (by assumption) rfl (by first | rfl | omega) (by omega) | exact Yld.indexL (sz := 1) (x0) hS rfl rfl Try.underlying26 info27 (by repeat (first | with_reducible exact Pk.here | with_reducible apply Pk.there)) rfl (by first | rfl | omega) (by omega) | exact Yld.indexB (sz := 1) (x0) hS rfl rfl Try.underlying26 info27 rfl (by first | rfl | omega) (by omega))) (by decide) ?_; clear hS; intro aa hS
                    refine dOne (i := 18) (by kernel_rfl) ?_
                    refine dop rfl (BstoreR0 (((r75, c75), ([] ++ zs) ++ [(y0 : Int)])) hS hR rfl rfl (by rfl) info27 (by rfl) (by repeat (first | with_reducible exact Pk.here | with_reducible apply Pk.there)) (by rfl) (by intro _; rfl) (by omega) (by first | exact Nat.le_of_ble_eq_true rfl | (simp only [List.length_singleton]; omega)) (Nat.le_of_ble_eq_true rfl) (by rfl) ?_); clear hR hR0; intro ww hR
                    refine dnext (hR.sub (by repeat (first | with_reducible exact Ex.refl | (with_reducible apply Ex.take; · repeat (first | with_reducible exact Pk.here | with_reducible apply Pk.there)) | with_reducible apply Ex.drop))) ?_; intro hR0
                    replace hR := Sep.rowPut (TI := 3) (i := x0) (xs := ([] ++ zs) ++ [(y0 : Int)]) ((hR.pk (r := sls r75 _ _ _ _ _) (by repeat (first | with_reducible exact Pk.here | with_reducible apply Pk.there))).pk (r := rowsH _ _) (by repeat (first | with_reducible exact Pk.here | with_reducible apply Pk.there))) (by simp) (by omega)
                    refine wpAnyH_done (by kernel_rfl) ?_ _; clear hR0
                    refine hK475 _ _ ?_
                    refine wp_seq_k ?_; intro K483 hK483
                    refine wp_region_lit ?_
                    refine sA hS hR (Yld.assign hS rfl) (by decide) ?_; clear hS; intro aa hS
                    refine wpList_nil ?_
                    refine hK483 _ _ ?_
                    refine wp_ret ?_
                    repeat (first | with_reducible refine thenR ?_ | with_reducible refine blockR ?_ | with_reducible refine scopeR ?_)
                    refine ret1 (fn := Try.f37) (e := .ret) (.inl rfl) Try.results37 hS hR ⟨_, (.tmp rfl), ?_⟩
                    have he : addE S n L x0 y0 = 0 := addE_new hx hy hno
                    refine ⟨by rw [he], ?_⟩
                    exact Sep.refI (TR := 70) (TS := 27) (TI := 3) (S := S) (b2 := b2) (n := n) (m := ys.length) (hys.set (k := x0) (M := L x0 ++ [y0]) (p := (r75, c75)) (xs := ([] ++ zs) ++ [(y0 : Int)]) hx (by rw [← hzs]; simp [cst])) (by rw [addS_new hx hy hno, if_neg (by simp [hg])]; rfl) (by simp) (hR.sub (by repeat (first | with_reducible exact Ex.refl | (with_reducible apply Ex.take; · repeat (first | with_reducible exact Pk.here | with_reducible apply Pk.there)) | with_reducible apply Ex.drop)))
                ·
                  refine dop rfl (BbuildSlice hS hR rfl (bls27_1_0 _) (by decide) ?_); clear hS hR hR0; intro aa ww bb74 hS hR
                  refine dnext (hR.sub (by repeat (first | with_reducible exact Ex.refl | (with_reducible apply Ex.take; · repeat (first | with_reducible exact Pk.here | with_reducible apply Pk.there)) | with_reducible apply Ex.drop))) ?_; intro hR0
                  replace hR := hR.pk (r := blk bb74 _ _) (by repeat (first | with_reducible exact Pk.here | with_reducible apply Pk.there))
                  replace hR := Sep.toRecs (m := 1) (sz := 1) (enc := e1) ([(y0 : Int)]) hR rfl (by intro _; rfl) rfl
                  refine dOne (i := 5) (by kernel_rfl) ?_
                  refine dop rfl (BbuildSlice hS hR rfl (bls27_0_) (by decide) ?_); clear hS hR hR0; intro aa ww bb64 hS hR
                  refine dnext (hR.sub (by repeat (first | with_reducible exact Ex.refl | (with_reducible apply Ex.take; · repeat (first | with_reducible exact Pk.here | with_reducible apply Pk.there)) | with_reducible apply Ex.drop))) ?_; intro hR0
                  replace hR := hR.pk (r := blk bb64 _ _) (by repeat (first | with_reducible exact Pk.here | with_reducible apply Pk.there))
                  replace hR := Sep.toRecs (m := 0) (sz := 1) (enc := e1) (([] : List Int)) hR rfl (by intro _; rfl) rfl
                  refine dOne (i := 13) (by kernel_rfl) ?_
                  refine dop rfl (BappendR (sz := 1) hS hR rfl rfl Try.underlying27 info3 rfl rfl (by rfl) (by repeat (first | with_reducible exact Pk.here | with_reducible apply Pk.there)) (XC.row (by repeat (first | with_reducible exact Pk.here | with_reducible apply Pk.there)) hrow) (by intro _; rfl) (by show (_ + _) * 8 ≤ _; first | omega | (simp only [List.length_take, List.length_append, List.length_drop, List.length_cons, List.length_nil, List.length_map]; omega)) (by first | omega | (simp only [List.length_take, List.length_append, List.length_drop, List.length_cons, List.length_nil, List.length_map]; omega)) (by first | rfl | (simp; done) | (simp; omega)) (by decide) ?_); clear hS hR hR0; intro aa ww r72 c72 hS hR
                  refine dnext (hR.sub (by repeat (first | with_reducible exact Ex.refl | (with_reducible apply Ex.take; · repeat (first | with_reducible exact Pk.here | with_reducible apply Pk.there)) | with_reducible apply Ex.drop))) ?_; intro hR0
                  refine dOne (i := 16) (by kernel_rfl) ?_
                  refine dop rfl (BappendR (sz := 1) hS hR rfl rfl Try.underlying27 info3 rfl rfl (by rfl) (by repeat (first | with_reducible exact Pk.here | with_reducible apply Pk.there)) (XC.all (by repeat (first | with_reducible exact Pk.here | with_reducible apply Pk.there))) (by intro _; rfl) (by show (_ + _) * 8 ≤ _; first | omega | (simp only [List.length_take, List.length_append, List.length_drop, List.length_cons, List.length_nil, List.length_map]; omega)) (by first | omega | (simp only [List.length_take, List.length_append, List.length_drop, List.length_cons, List.length_nil, List.length_map]; omega)) (by first | rfl | (simp; done) | (simp; omega)) (by decide) ?_); clear hS hR hR0; intro aa ww r75 c75 hS hR
                  refine dnext (hR.sub (by repeat (first | with_reducible exact Ex.refl | (with_reducible apply Ex.take; · repeat (first | with_reducible exact Pk.here | with_reducible apply Pk.there)) | with_reducible apply Ex.drop))) ?_; intro hR0
                  refine dA 17 rfl (by kernel_rfl) (by kernel_rfl) (by kernel_rfl) (fun _ _ _ h => h) hS hR0 ((by first | exact Yld.indexH (sz := 1) (x0) hS rfl rfl Try.underlying26 info27 (by assumption) rfl (by first | rfl | omega) (by omega) | exact Yld.indexL (sz := 1) (x0) hS rfl rfl Try.underlying26 info27 (by repeat (first | with_reducible exact Pk.here | with_reducible apply Pk.there)) rfl (by first | rfl | omega) (by omega) | exact Yld.indexB (sz := 1) (x0) hS rfl rfl Try.underlying26 info27 rfl (by first | rfl | omega) (by omega))) (by decide) ?_; clear hS; intro aa hS
                  refine dOne (i := 18) (by kernel_rfl) ?_
                  refine dop rfl (BstoreR0 (((r75, c75), ([] ++ zs) ++ [(y0 : Int)])) hS hR rfl rfl (by rfl) info27 (by rfl) (by repeat (first | with_reducible exact Pk.here | with_reducible apply Pk.there)) (by rfl) (by intro _; rfl) (by omega) (by first | exact Nat.le_of_ble_eq_true rfl | (simp only [List.length_singleton]; omega)) (Nat.le_of_ble_eq_true rfl) (by rfl) ?_); clear hR hR0; intro ww hR
                  refine dnext (hR.sub (by repeat (first | with_reducible exact Ex.refl | (with_reducible apply Ex.take; · repeat (first | with_reducible exact Pk.here | with_reducible apply Pk.there)) | with_reducible apply Ex.drop))) ?_; intro hR0
                  replace hR := Sep.rowPut (TI := 3) (i := x0) (xs := ([] ++ zs) ++ [(y0 : Int)]) ((hR.pk (r := sls r75 _ _ _ _ _) (by repeat (first | with_reducible exact Pk.here | with_reducible apply Pk.there))).pk (r := rowsH _ _) (by repeat (first | with_reducible exact Pk.here | with_reducible apply Pk.there))) (by simp) (by omega)
                  refine wpAnyH_done (by kernel_rfl) ?_ _; clear hR0
                  refine hK475 _ _ ?_
                  refine wp_seq_k ?_; intro K484 hK484
                  refine wp_region_lit ?_
                  refine sA hS hR (Yld.assign hS rfl) (by decide) ?_; clear hS; intro aa hS
                  refine wpList_nil ?_
                  refine hK484 _ _ ?_
                  refine wp_ret ?_
                  repeat (first | with_reducible refine thenR ?_ | with_reducible refine blockR ?_ | with_reducible refine scopeR ?_)
                  refine ret1 (fn := Try.f37) (e := .ret) (.inl rfl) Try.results37 hS hR ⟨_, (.tmp rfl), ?_⟩
                  have he : addE S n L x0 y0 = 0 := addE_new hx hy hno
                  refine ⟨by rw [he], ?_⟩
                  exact Sep.refI (TR := 70) (TS := 27) (TI := 3) (S := S) (b2 := b2) (n := n) (m := ys.length) (hys.set (k := x0) (M := L x0 ++ [y0]) (p := (r75, c75)) (xs := ([] ++ zs) ++ [(y0 : Int)]) hx (by rw [← hzs]; simp [cst])) (by rw [addS_new hx hy hno, if_neg (by simp [hg])]; rfl) (by simp) (hR.sub (by repeat (first | with_reducible exact Ex.refl | (with_reducible apply Ex.take; · repeat (first | with_reducible exact Pk.here | with_reducible apply Pk.there)) | with_reducible apply Ex.drop)))
              ·
                refine dop rfl (BbuildSlice hS hR rfl (bls27_1_0 _) (by decide) ?_); clear hS hR hR0; intro aa ww bb74 hS hR
                refine dnext (hR.sub (by repeat (first | with_reducible exact Ex.refl | (with_reducible apply Ex.take; · repeat (first | with_reducible exact Pk.here | with_reducible apply Pk.there)) | with_reducible apply Ex.drop))) ?_; intro hR0
                replace hR := hR.pk (r := blk bb74 _ _) (by repeat (first | with_reducible exact Pk.here | with_reducible apply Pk.there))
                replace hR := Sep.toRecs (m := 1) (sz := 1) (enc := e1) ([(y0 : Int)]) hR rfl (by intro _; rfl) rfl
                refine dTwo (i := 5) (j := 12) (by kernel_rfl) ?_ ?_
                ·
                  refine dop rfl (BbuildSlice hS hR rfl (bls27_0_) (by decide) ?_); clear hS hR hR0; intro aa ww bb64 hS hR
                  refine dnext (hR.sub (by repeat (first | with_reducible exact Ex.refl | (with_reducible apply Ex.take; · repeat (first | with_reducible exact Pk.here | with_reducible apply Pk.there)) | with_reducible apply Ex.drop))) ?_; intro hR0
                  replace hR := hR.pk (r := blk bb64 _ _) (by repeat (first | with_reducible exact Pk.here | with_reducible apply Pk.there))
                  replace hR := Sep.toRecs (m := 0) (sz := 1) (enc := e1) (([] : List Int)) hR rfl (by intro _; rfl) rfl
                  refine dOne (i := 12) (by kernel_rfl) ?_
                  refine dop rfl (BA hS hR (Yld.load1 hS rfl Try.underlying27 rfl (Rd.rec0 (k := x0) (xs := ys) (v := .slice rr zs.length cr) (by repeat (first | with_reducible exact Pk.here | with_reducible apply Pk.there)) (by intro _; rfl) (by omega) (by rw [(List.getElem?_eq_some_iff.1 hrow).2]; rfl))) (by decide) ?_); clear hS; intro aa hS; refine ⟨hR0, ?_⟩
                  refine dOne (i := 13) (by kernel_rfl) ?_
                  refine dop rfl (BappendR (sz := 1) hS hR rfl rfl Try.underlying27 info3 rfl rfl (by rfl) (by repeat (first | with_reducible exact Pk.here | with_reducible apply Pk.there)) (XC.row (by repeat (first | with_reducible exact Pk.here | with_reducible apply Pk.there)) hrow) (by intro _; rfl) (by show (_ + _) * 8 ≤ _; first | omega | (simp only [List.length_take, List.length_append, List.length_drop, List.length_cons, List.length_nil, List.length_map]; omega)) (by first | omega | (simp only [List.length_take, List.length_append, List.length_drop, List.length_cons, List.length_nil, List.length_map]; omega)) (by first | rfl | (simp; done) | (simp; omega)) (by decide) ?_); clear hS hR hR0; intro aa ww r72 c72 hS hR
                  refine dnext (hR.sub (by repeat (first | with_reducible exact Ex.refl | (with_reducible apply Ex.take; · repeat (first | with_reducible exact Pk.here | with_reducible apply Pk.there)) | with_reducible apply Ex.drop))) ?_; intro hR0
                  refine dOne (i := 16) (by kernel_rfl) ?_
                  refine dop rfl (BappendR (sz := 1) hS hR rfl rfl Try.underlying27 info3 rfl rfl (by rfl) (by repeat (first | with_reducible exact Pk.here | with_reducible apply Pk.there)) (XC.all (by repeat (first | with_reducible exact Pk.here | with_reducible apply Pk.there))) (by intro _; rfl) (by show (_ + _) * 8 ≤ _; first | omega | (simp only [List.length_take, List.length_append, List.length_drop, List.length_cons, List.length_nil, List.length_map]; omega)) (by first | omega | (simp only [List.length_take, List.length_append, List.length_drop, List.length_cons, List.length_nil, List.length_map]; omega)) (by first | rfl | (simp; done) | (simp; omega)) (by decide) ?_); clear hS hR hR0; intro aa ww r75 c75 hS hR
                  refine dnext (hR.sub (by repeat (first | with_reducible exact Ex.refl | (with_reducible apply Ex.take; · repeat (first | with_reducible exact Pk.here | with_reducible apply Pk.there)) | with_reducible apply Ex.drop))) ?_; intro hR0
                  refine dA 17 rfl (by kernel_rfl) (by kernel_rfl) (by kernel_rfl) (fun _ _ _ h => h) hS hR0 ((by first | exact Yld.indexH (sz := 1) (x0) hS rfl rfl Try.underlying26 info27 (by assumption) rfl (by first | rfl | omega) (by omega) | exact Yld.indexL (sz := 1) (x0) hS rfl rfl Try.underlying26 info27 (by repeat (first | with_reducible exact Pk.here | with_reducible apply Pk.there)) rfl (by first | rfl | omega) (by omega) | exact Yld.indexB (sz := 1) (x0) hS rfl rfl Try.underlying26 info27 rfl (by first | rfl | omega) (by omega))) (by decide) ?_; clear hS; intro aa hS
                  refine dOne (i := 18) (by kernel_rfl) ?_
                  refine dop rfl (BstoreR0 (((r75, c75), ([] ++ zs) ++ [(y0 : Int)])) hS hR rfl rfl (by rfl) info27 (by rfl) (by repeat (first | with_reducible exact Pk.here | with_reducible apply Pk.there)) (by rfl) (by intro _; rfl) (by omega) (by first | exact Nat.le_of_ble_eq_true rfl | (simp only [List.length_singleton]; omega)) (Nat.le_of_ble_eq_true rfl) (by rfl) ?_); clear hR hR0; intro ww hR
                  refine dnext (hR.sub (by repeat (first | with_reducible exact Ex.refl | (with_reducible apply Ex.take; · repeat (first | with_reducible exact Pk.here | with_reducible apply Pk.there)) | with_reducible apply Ex.drop))) ?_; intro hR0
                  replace hR := Sep.rowPut (TI := 3) (i := x0) (xs := ([] ++ zs) ++ [(y0 : Int)]) ((hR.pk (r := sls r75 _ _ _ _ _) (by repeat (first | with_reducible exact Pk.here | with_reducible apply Pk.there))).pk (r := rowsH _ _) (by repeat (first | with_reducible exact Pk.here | with_reducible apply Pk.there))) (by simp) (by omega)
                  refine wpAnyH_done (by kernel_rfl) ?_ _; clear hR0
                  refine hK475 _ _ ?_
                  refine wp_seq_k ?_; intro K485 hK485
                  refine wp_region_lit ?_
                  refine sA hS hR (Yld.assign hS rfl) (by decide) ?_; clear hS; intro aa hS
                  refine wpList_nil ?_
                  refine hK485 _ _ ?_
                  refine wp_ret ?_
                  repeat (first | with_reducible refine thenR ?_ | with_reducible refine blockR ?_ | with_reducible refine scopeR ?_)
                  refine ret1 (fn := Try.f37) (e := .ret) (.inl rfl) Try.results37 hS hR ⟨_, (.tmp rfl), ?_⟩
                  have he : addE S n L x0 y0 = 0 := addE_new hx hy hno
                  refine ⟨by rw [he], ?_⟩
                  exact Sep.refI (TR := 70) (TS := 27) (TI := 3) (S := S) (b2 := b2) (n := n) (m := ys.length) (hys.set (k := x0) (M := L x0 ++ [y0]) (p := (r75, c75)) (xs := ([] ++ zs) ++ [(y0 : Int)]) hx (by rw [← hzs]; simp [cst])) (by rw [addS_new hx hy hno, if_neg (by simp [hg])]; rfl) (by simp) (hR.sub (by repeat (first | with_reducible exact Ex.refl | (with_reducible apply Ex.take; · repeat (first | with_reducible exact Pk.here | with_reducible apply Pk.there)) | with_reducible apply Ex.drop)))
                ·
                  refine dop rfl (BA hS hR (Yld.load1 hS rfl Try.underlying27 rfl (Rd.rec0 (k := x0) (xs := ys) (v := .slice rr zs.length cr) (by repeat (first | with_reducible exact Pk.here | with_reducible apply Pk.there)) (by intro _; rfl) (by omega) (by rw [(List.getElem?_eq_some_iff.1 hrow).2]; rfl))) (by decide) ?_); clear hS; intro aa hS; refine ⟨hR0, ?_⟩
                  refine dOne (i := 5) (by kernel_rfl) ?_
                  refine dop rfl (BbuildSlice hS hR rfl (bls27_0_) (by decide) ?_); clear hS hR hR0; intro aa ww bb64 hS hR
                  refine dnext (hR.sub (by repeat (first | with_reducible exact Ex.refl | (with_reducible apply Ex.take; · repeat (first | with_reducible exact Pk.here | with_reducible apply Pk.there)) | with_reducible apply Ex.drop))) ?_; intro hR0
                  replace hR := hR.pk (r := blk bb64 _ _) (by repeat (first | with_reducible exact Pk.here | with_reducible apply Pk.there))
                  replace hR := Sep.toRecs (m := 0) (sz := 1) (enc := e1) (([] : List Int)) hR rfl (by intro _; rfl) rfl
                  refine dOne (i := 13) (by kernel_rfl) ?_
                  refine dop rfl (BappendR (sz := 1) hS hR rfl rfl Try.underlying27 info3 rfl rfl (by rfl) (by repeat (first | with_reducible exact Pk.here | with_reducible apply Pk.there)) (XC.row (by repeat (first | with_reducible exact Pk.here | with_reducible apply Pk.there)) hrow) (by intro _; rfl) (by show (_ + _) * 8 ≤ _; first | omega | (simp only [List.length_take, List.length_append, List.length_drop, List.length_cons, List.length_nil, List.length_map]; omega)) (by first | omega | (simp only [List.length_take, List.length_append, List.length_drop, List.length_cons, List.length_nil, List.length_map]; omega)) (by first | rfl | (simp; done) | (simp; omega)) (by decide) ?_); clear hS hR hR0; intro aa ww r72 c72 hS hR
                  refine dnext (hR.sub (by repeat (first | with_reducible exact Ex.refl | (with_reducible apply Ex.take; · repeat (first | with_reducible exact Pk.here | with_reducible apply Pk.there)) | with_reducible apply Ex.drop))) ?_; intro hR0
                  refine dOne (i := 16) (by kernel_rfl) ?_
                  refine dop rfl (BappendR (sz := 1) hS hR rfl rfl Try.underlying27 info3 rfl rfl (by rfl) (by repeat (first | with_reducible exact Pk.here | with_reducible apply Pk.there)) (XC.all (by repeat (first | with_reducible exact Pk.here | with_reducible apply Pk.there))) (by intro _; rfl) (by show (_ + _) * 8 ≤ _; first | omega | (simp only [List.length_take, List.length_append, List.length_drop, List.length_cons, List.length_nil, List.length_map]; omega)) (by first | omega | (simp only [List.length_take, List.length_append, List.length_drop, List.length_cons, List.length_nil, List.length_map]; omega)) (by first | rfl | (simp; done) | (simp; omega)) (by decide) ?_); clear hS hR hR0; intro aa ww r75 c75 hS hR
                  refine dnext (hR.sub (by repeat (first | with_reducible exact Ex.refl | (with_reducible apply Ex.take; · repeat (first | with_reducible exact Pk.here | with_reducible apply Pk.there)) | with_reducible apply Ex.drop))) ?_; intro hR0
                  refine dA 17 rfl (by kernel_rfl) (by kernel_rfl) (by kernel_rfl) (fun _ _ _ h => h) hS hR0 ((by first | exact Yld.indexH (sz := 1) (x0) hS rfl rfl Try.underlying26 info27 (by assumption) rfl (by first | rfl | omega) (by omega) | exact Yld.indexL (sz := 1) (x0) hS rfl rfl Try.underlying26 info27 (by repeat (first | with_reducible exact Pk.here | with_reducible apply Pk.there)) rfl (by first | rfl | omega) (by omega) | exact Yld.indexB (sz := 1) (x0) hS rfl rfl Try.underlying26 info27 rfl (by first | rfl | omega) (by omega))) (by decide) ?_; clear hS; intro aa hS
                  refine dOne (i := 18) (by kernel_rfl) ?_
                  refine dop rfl (BstoreR0 (((r75, c75), ([] ++ zs) ++ [(y0 : Int)])) hS hR rfl rfl (by rfl) info27 (by rfl) (by repeat (first | with_reducible exact Pk.here | with_reducible apply Pk.there)) (by rfl) (by intro _; rfl) (by omega) (by first | exact Nat.le_of_ble_eq_true rfl | (simp only [List.length_singleton]; omega)) (Nat.le_of_ble_eq_true rfl) (by rfl) ?_); clear hR hR0; intro ww hR
                  refine dnext (hR.sub (by repeat (first | with_reducible exact Ex.refl | (with_reducible apply Ex.take; · repeat (first | with_reducible exact Pk.here | with_reducible apply Pk.there)) | with_reducible apply Ex.drop))) ?_; intro hR0
                  replace hR := Sep.rowPut (TI := 3) (i := x0) (xs := ([] ++ zs) ++ [(y0 : Int)]) ((hR.pk (r := sls r75 _ _ _ _ _) (by repeat (first | with_reducible exact Pk.here | with_reducible apply Pk.there))).pk (r := rowsH _ _) (by repeat (first | with_reducible exact Pk.here | with_reducible apply Pk.there))) (by simp) (by omega)
                  refine wpAnyH_done (by kernel_rfl) ?_ _; clear hR0
                  refine hK475 _ _ ?_
                  refine wp_seq_k ?_; intro K486 hK486
                  refine wp_region_lit ?_
                  refine sA hS hR (Yld.assign hS rfl) (by decide) ?_; clear hS; intro aa hS
                  refine wpList_nil ?_
                  refine hK486 _ _ ?_
                  refine wp_ret ?_
                  repeat (first | with_reducible refine thenR ?_ | with_reducible refine blockR ?_ | with_reducible refine scopeR ?_)
                  refine ret1 (fn := Try.f37) (e := .ret) (.inl rfl) Try.results37 hS hR ⟨_, (.tmp rfl), ?_⟩
                  have he : addE S n L x0 y0 = 0 := addE_new hx hy hno
                  refine ⟨by rw [he], ?_⟩
                  exact Sep.refI (TR := 70) (TS := 27) (TI := 3) (S := S) (b2 := b2) (n := n) (m := ys.length) (hys.set (k := x0) (M := L x0 ++ [y0]) (p := (r75, c75)) (xs := ([] ++ zs) ++ [(y0 : Int)]) hx (by rw [← hzs]; simp [cst])) (by rw [addS_new hx hy hno, if_neg (by simp [hg])]; rfl) (by simp) (hR.sub (by repeat (first | with_reducible exact Ex.refl | (with_reducible apply Ex.take; · repeat (first | with_reducible exact Pk.here | with_reducible apply Pk.there)) | with_reducible apply Ex.drop)))
end Go.Proofs.Ytcokognhodjfgaa.Sx
