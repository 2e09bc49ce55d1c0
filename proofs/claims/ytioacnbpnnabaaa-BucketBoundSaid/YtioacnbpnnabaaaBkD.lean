/-
  
-/
import Derived.Test.YtioacnbpnnabaaaBkC
import Derived.Test.YtioacnbpnnabaaaBkMath2
namespace Go.Proofs.Ytioacnbpnnabaaa.Sx
open Go
set_option linter.unusedVariables false
set_option linter.unusedSimpArgs false

theorem info32 : Try.prog.info? 32 = some Try.t32 := by kernel_rfl
theorem neq25 (o1 o2 : Operand) (x_0 : Int) (x_1 : Int) (y_0 : Int) (y_1 : Int) (w : World) : (do eqGuard .neq 25 o1 o2 (.agg [.int .i64 x_0, .int .i64 x_1].toArray) (.agg [.int .i64 y_0, .int .i64 y_1].toArray); binOp .neq 25 (.agg [.int .i64 x_0, .int .i64 x_1].toArray) (.agg [.int .i64 y_0, .int .i64 y_1].toArray) : Sem Value).run Try.prog w = .ok (.bool (!decide (x_0 = y_0 ∧ x_1 = y_1))) w := by
  by_cases h0 : x_0 = y_0
  · skip
    by_cases h1 : x_1 = y_1
    · simp [go_sem, h0, h1]
    · simp [go_sem, h0, h1]
  · simp [go_sem, h0]

set_option maxRecDepth 20000 in
theorem modulo_ok {n d : Int} {l : List HP} {w : World} (hR : Sep l w) (hd : 1 ≤ d ∧ d ≤ 4611686018427387904) : CallR Try.prog 15 [.int .i64 n, .int .i64 d] w (fun v w' => v = .int .i64 (n % d) ∧ Sep l w') := by
  refine enter Try.func15 rfl Try.ntmps15 (Nat.le_of_ble_eq_true rfl) ?_; intro aa hS
  have h1 := Int.lt_tmod_of_pos n (show 0 < d by omega)
  have h2 := Int.tmod_lt_of_pos n (show 0 < d by omega)
  refine wp_seq_k ?_; intro K165 hK165
  refine wp_region_lit ?_
  refine sA hS hR (Yld.assign hS rfl) (by decide) ?_; clear hS; intro aa hS
  refine wpList_nil ?_
  refine hK165 _ _ ?_
  refine wp_seq_k ?_; intro K166 hK166
  refine wp_region_lit ?_
  refine sA hS hR (Yld.move hS rfl) (by decide) ?_; clear hS; intro aa hS
  refine sA hS hR (Yld.move hS rfl) (by decide) ?_; clear hS; intro aa hS
  refine sA hS hR (Yld.rem hS rfl rfl (by omega)) (by decide) ?_; clear hS; intro aa hS
  refine sA hS hR (Yld.move hS rfl) (by decide) ?_; clear hS; intro aa hS
  refine sA hS hR ((by first | exact Yld.add64 hS rfl rfl (by omega) | exact Yld.add hS rfl rfl)) (by decide) ?_; clear hS; intro aa hS
  refine sA hS hR (Yld.move hS rfl) (by decide) ?_; clear hS; intro aa hS
  refine sA hS hR (Yld.rem hS rfl rfl (by omega)) (by decide) ?_; clear hS; intro aa hS
  replace hS := hS.say (t := 11) (.int .i64 (n % d)) rfl (by rw [modulo_eq hd.1])
  refine sA hS hR (Yld.assign hS rfl) (by decide) ?_; clear hS; intro aa hS
  refine wpList_nil ?_
  refine hK166 _ _ ?_
  refine wp_ret ?_
  repeat (first | with_reducible refine thenR ?_ | with_reducible refine blockR ?_ | with_reducible refine scopeR ?_)
  refine ret1 (fn := Try.f15) (e := .ret) (.inl rfl) Try.results15 hS hR ⟨_, (.tmp rfl), ?_⟩
  exact ⟨rfl, (hR.sub (by repeat (first | with_reducible exact Ex.refl | with_reducible apply Ex.drop)))⟩
set_option maxRecDepth 20000 in
theorem made_ok {n0 n1 n2 : Int} {l : List HP} {w : World} (hR : Sep l w) : CallR Try.prog 14 [.agg [.int .i64 n0, .int .i64 n1, .int .i64 n2].toArray] w (fun v w' => (∃ t p b, Md t p b ∧ v = .agg [.int .i64 t, .int .i64 p, .int .i64 b].toArray) ∧ Sep l w') := by
  refine enter Try.func14 rfl Try.ntmps14 (Nat.le_of_ble_eq_true rfl) ?_; intro aa hS
  have e0 := emod_bd (n := n0) (d := 100) (by omega)
  have e1 := emod_bd (n := n1) (d := 1000) (by omega)
  have e2 := emod_bd (n := n2) (d := 100) (by omega)
  refine wp_seq_k ?_; intro K167 hK167
  refine wp_region_lit ?_
  refine sB (Bbox hS hR rfl (by rfl) (by decide) ?_); clear hS hR; intro aa ww bb1 hS hR
  refine sB (Balloc hS hR info23 (by rfl) (by rfl) (by decide) ?_); clear hS hR; intro aa ww bb2 hS hR
  refine wpList_nil ?_
  refine hK167 _ _ ?_
  refine wp_seq_k ?_; intro K168 hK168
  refine drawn (by kernel_rfl) hR (Ex.of_pk (r := blk bb2 _ _) (by repeat (first | with_reducible exact Pk.here | with_reducible apply Pk.there))) ?_; clear hR; intro ww hR hR0
  refine dA 0 rfl (by kernel_rfl) (by kernel_rfl) (by kernel_rfl) (fun _ _ _ h => h) hS hR0 (Yld.fieldAddr hS rfl 0 Try.underlying32 rfl rfl info3 (by decide)) (by decide) ?_; clear hS; intro aa hS
  refine dA 1 rfl (by kernel_rfl) (by kernel_rfl) (by kernel_rfl) (fun _ _ _ h => h) hS hR0 (Yld.load1 hS rfl Try.underlying3 rfl (Rd.blk (by repeat (first | with_reducible exact Pk.here | with_reducible apply Pk.there)) (by rfl))) (by decide) ?_; clear hS; intro aa hS
  refine dA 4 rfl (by kernel_rfl) (by kernel_rfl) (by kernel_rfl) (fun _ _ _ h => h) hS hR0 (Yld.fieldAddr hS rfl 1 Try.underlying32 rfl rfl info3 (by decide)) (by decide) ?_; clear hS; intro aa hS
  refine dA 5 rfl (by kernel_rfl) (by kernel_rfl) (by kernel_rfl) (fun _ _ _ h => h) hS hR0 (Yld.load1 hS rfl Try.underlying3 rfl (Rd.blk (by repeat (first | with_reducible exact Pk.here | with_reducible apply Pk.there)) (by rfl))) (by decide) ?_; clear hS; intro aa hS
  refine dA 8 rfl (by kernel_rfl) (by kernel_rfl) (by kernel_rfl) (fun _ _ _ h => h) hS hR0 (Yld.fieldAddr hS rfl 2 Try.underlying32 rfl rfl info3 (by decide)) (by decide) ?_; clear hS; intro aa hS
  refine dA 9 rfl (by kernel_rfl) (by kernel_rfl) (by kernel_rfl) (fun _ _ _ h => h) hS hR0 (Yld.load1 hS rfl Try.underlying3 rfl (Rd.blk (by repeat (first | with_reducible exact Pk.here | with_reducible apply Pk.there)) (by rfl))) (by decide) ?_; clear hS; intro aa hS
  refine dOne (i := 2) (by kernel_rfl) ?_
  refine dop rfl (Bcall hS rfl Try.call15 (modulo_ok hR (by omega)) (by decide) ?_); clear hS; intro aa ww vv hS hp
  clear hR hR0
  obtain ⟨rfl, hR⟩ := hp
  refine dnext (hR.sub (by repeat (first | with_reducible exact Ex.refl | with_reducible apply Ex.drop))) ?_; intro hR0
  refine dA 3 rfl (by kernel_rfl) (by kernel_rfl) (by kernel_rfl) (fun _ _ _ h => h) hS hR0 ((by first | exact Yld.add64 hS rfl rfl (by omega) | exact Yld.add hS rfl rfl)) (by decide) ?_; clear hS; intro aa hS
  refine dOne (i := 6) (by kernel_rfl) ?_
  refine dop rfl (Bcall hS rfl Try.call15 (modulo_ok hR (by omega)) (by decide) ?_); clear hS; intro aa ww vv hS hp
  clear hR hR0
  obtain ⟨rfl, hR⟩ := hp
  refine dnext (hR.sub (by repeat (first | with_reducible exact Ex.refl | with_reducible apply Ex.drop))) ?_; intro hR0
  refine dA 7 rfl (by kernel_rfl) (by kernel_rfl) (by kernel_rfl) (fun _ _ _ h => h) hS hR0 ((by first | exact Yld.add64 hS rfl rfl (by omega) | exact Yld.add hS rfl rfl)) (by decide) ?_; clear hS; intro aa hS
  refine dOne (i := 10) (by kernel_rfl) ?_
  refine dop rfl (Bcall hS rfl Try.call15 (modulo_ok hR (by omega)) (by decide) ?_); clear hS; intro aa ww vv hS hp
  clear hR hR0
  obtain ⟨rfl, hR⟩ := hp
  refine dnext (hR.sub (by repeat (first | with_reducible exact Ex.refl | with_reducible apply Ex.drop))) ?_; intro hR0
  refine dA 11 rfl (by kernel_rfl) (by kernel_rfl) (by kernel_rfl) (fun _ _ _ h => h) hS hR0 ((by first | exact Yld.add64 hS rfl rfl (by omega) | exact Yld.add hS rfl rfl)) (by decide) ?_; clear hS; intro aa hS
  refine dA 12 rfl (by kernel_rfl) (by kernel_rfl) (by kernel_rfl) (fun _ _ _ h => h) hS hR0 (Yld.build hS rfl (bld23_0_1_2 _ _ _)) (by decide) ?_; clear hS; intro aa hS
  refine dOne (i := 13) (by kernel_rfl) ?_
  refine dop rfl (Bstore hS hR rfl rfl (by rfl) info23 (by rfl) (by repeat (first | with_reducible exact Pk.here | with_reducible apply Pk.there)) (by rfl) (Nat.le_of_ble_eq_true rfl) ?_); clear hR hR0; intro ww hR
  refine dnext (hR.sub (by repeat (first | with_reducible exact Ex.refl | with_reducible apply Ex.drop))) ?_; intro hR0
  refine wpAnyH_done (by kernel_rfl) ?_ _; clear hR0
  refine hK168 _ _ ?_
  refine wp_ret ?_
  repeat (first | with_reducible refine thenR ?_ | with_reducible refine blockR ?_ | with_reducible refine scopeR ?_)
  refine ret1 (fn := Try.f14) (e := .ret) (.inl rfl) Try.results14 hS hR ⟨_, (.agg rfl Try.underlying23 rfl info23 (Rds.cons (Rd.blk (by repeat (first | with_reducible exact Pk.here | with_reducible apply Pk.there)) (by rfl)) (Rds.cons (Rd.blk (by repeat (first | with_reducible exact Pk.here | with_reducible apply Pk.there)) (by rfl)) (Rds.cons (Rd.blk (by repeat (first | with_reducible exact Pk.here | with_reducible apply Pk.there)) (by rfl)) (Rds.nil)))) (by rfl)), ?_⟩
  exact ⟨⟨_, _, _, (show Md _ _ _ by unfold Md; omega), rfl⟩, (hR.sub (by repeat (first | with_reducible exact Ex.refl | with_reducible apply Ex.drop)))⟩
set_option maxRecDepth 20000 in
theorem level_ok {t p b x y : Int} {l : List HP} {w : World} (hR : Sep l w) (hM : Md t p b) : CallR Try.prog 20 [.agg [.int .i64 t, .int .i64 p, .int .i64 b].toArray, .int .i64 x, .int .i64 y] w (fun v w' => (∃ lv at_, (0 ≤ lv ∧ lv ≤ b * p) ∧ (0 ≤ at_ ∧ at_ < 1073741824) ∧ v = .agg [.int .i64 lv, .int .i64 at_].toArray) ∧ Sep l w') := by
  refine enter Try.func20 rfl Try.ntmps20 (Nat.le_of_ble_eq_true rfl) ?_; intro aa hS
  have hmp := hM.most
  have e0 := emod_bd (n := x) (d := b * p + 1) (by omega)
  have e1 := emod_bd (n := y) (d := 1073741824) (by omega)
  refine wp_seq_k ?_; intro K169 hK169
  refine wp_region_lit ?_
  refine sB (Bbox hS hR rfl (by rfl) (by decide) ?_); clear hS hR; intro aa ww bb3 hS hR
  refine sB (Balloc hS hR info25 (by rfl) (by rfl) (by decide) ?_); clear hS hR; intro aa ww bb6 hS hR
  refine wpList_nil ?_
  refine hK169 _ _ ?_
  refine wp_seq_k ?_; intro K170 hK170
  refine wp_region_lit ?_
  refine sA hS hR (Yld.move hS rfl) (by decide) ?_; clear hS; intro aa hS
  refine sA hS hR (Yld.fieldAddr hS rfl 2 Try.underlying23 rfl rfl info3 (by decide)) (by decide) ?_; clear hS; intro aa hS
  refine sA hS hR (Yld.load1 hS rfl Try.underlying3 rfl (Rd.blk (by repeat (first | with_reducible exact Pk.here | with_reducible apply Pk.there)) (by rfl))) (by decide) ?_; clear hS; intro aa hS
  refine sA hS hR (Yld.fieldAddr hS rfl 1 Try.underlying23 rfl rfl info3 (by decide)) (by decide) ?_; clear hS; intro aa hS
  refine sA hS hR (Yld.load1 hS rfl Try.underlying3 rfl (Rd.blk (by repeat (first | with_reducible exact Pk.here | with_reducible apply Pk.there)) (by rfl))) (by decide) ?_; clear hS; intro aa hS
  refine sA hS hR ((by first | exact Yld.mul64 hS rfl rfl (by omega) | exact Yld.mul hS rfl rfl)) (by decide) ?_; clear hS; intro aa hS
  refine sA hS hR ((by first | exact Yld.add64 hS rfl rfl (by omega) | exact Yld.add hS rfl rfl)) (by decide) ?_; clear hS; intro aa hS
  refine sB (Bcall hS rfl Try.call15 (modulo_ok hR (by omega)) (by decide) ?_); clear hS; intro aa ww vv hS hp
  clear hR
  obtain ⟨rfl, hR⟩ := hp
  refine sA hS hR (Yld.move hS rfl) (by decide) ?_; clear hS; intro aa hS
  refine sB (Bcall hS rfl Try.call15 (modulo_ok hR (by omega)) (by decide) ?_); clear hS; intro aa ww vv hS hp
  clear hR
  obtain ⟨rfl, hR⟩ := hp
  refine sA hS hR (Yld.build hS rfl (bld25_0_1 _ _)) (by decide) ?_; clear hS; intro aa hS
  refine sB (Bstore hS hR rfl rfl (by rfl) info25 (by rfl) (by repeat (first | with_reducible exact Pk.here | with_reducible apply Pk.there)) (by rfl) (Nat.le_of_ble_eq_true rfl) ?_); clear hR; intro ww hR
  refine wpList_nil ?_
  refine hK170 _ _ ?_
  refine wp_ret ?_
  repeat (first | with_reducible refine thenR ?_ | with_reducible refine blockR ?_ | with_reducible refine scopeR ?_)
  refine ret1 (fn := Try.f20) (e := .ret) (.inl rfl) Try.results20 hS hR ⟨_, (.agg rfl Try.underlying25 rfl info25 (Rds.cons (Rd.blk (by repeat (first | with_reducible exact Pk.here | with_reducible apply Pk.there)) (by rfl)) (Rds.cons (Rd.blk (by repeat (first | with_reducible exact Pk.here | with_reducible apply Pk.there)) (by rfl)) (Rds.nil))) (by rfl)), ?_⟩
  exact ⟨⟨_, _, (show 0 ≤ _ ∧ _ ≤ _ by omega), e1, rfl⟩, (hR.sub (by repeat (first | with_reducible exact Ex.refl | with_reducible apply Ex.drop)))⟩
set_option maxRecDepth 20000 in
theorem BucketFills_ok {n0 n1 n2 x y z u : Int} {l : List HP} {w : World} (hR : Sep l w) : CallR Try.prog 6 [.agg [.int .i64 n0, .int .i64 n1, .int .i64 n2].toArray, .int .i64 x, .int .i64 y, .int .i64 z, .int .i64 u] w (fun v w' => v = .bool true ∧ Sep l w') := by
  refine enter Try.func6 rfl Try.ntmps6 (Nat.le_of_ble_eq_true rfl) ?_; intro aa hS
  have e0 := emod_bd (n := z) (d := 1048576) (by omega)
  have e1 := emod_bd (n := u) (d := 1048576) (by omega)
  refine wp_seq_k ?_; intro K171 hK171
  refine wp_region_lit ?_
  refine sB (Bbox hS hR rfl (by rfl) (by decide) ?_); clear hS hR; intro aa ww bb5 hS hR
  refine sA hS hR (Yld.assign hS rfl) (by decide) ?_; clear hS; intro aa hS
  refine wpList_nil ?_
  refine hK171 _ _ ?_
  refine wp_seq_k ?_; intro K172 hK172
  refine wp_seq_k ?_; intro K173 hK173
  refine wp_region_lit ?_
  refine sB (Bcall hS rfl Try.call12 (awake_ok hR) (by decide) ?_); clear hS; intro aa ww vv hS hp
  clear hR
  obtain ⟨rfl, hR⟩ := hp
  refine sA hS hR (Yld.not hS rfl) (by decide) ?_; clear hS; intro aa hS
  refine wpList_nil ?_
  refine hK173 _ _ ?_
  refine condF hS rfl ?_
  refine wp_skip ?_
  refine hK172 _ _ ?_
  refine wp_seq_k ?_; intro K174 hK174
  refine wp_region_lit ?_
  refine sA hS hR (Yld.loadAgg hS rfl Try.underlying32 rfl info32 (Rds.cons (Rd.blk (by repeat (first | with_reducible exact Pk.here | with_reducible apply Pk.there)) (by rfl)) (Rds.cons (Rd.blk (by repeat (first | with_reducible exact Pk.here | with_reducible apply Pk.there)) (by rfl)) (Rds.cons (Rd.blk (by repeat (first | with_reducible exact Pk.here | with_reducible apply Pk.there)) (by rfl)) (Rds.nil)))) (by rfl)) (by decide) ?_; clear hS; intro aa hS
  refine sB (Bcall hS rfl Try.call14 (made_ok hR) (by decide) ?_); clear hS; intro aa ww vv hS hp
  clear hR
  obtain ⟨⟨t, p, b, hM, rfl⟩, hR⟩ := hp
  have hmp := hM.most
  have hMd : 1 ≤ t ∧ t ≤ 100 ∧ 1 ≤ p ∧ p ≤ 1000 ∧ 1 ≤ b ∧ b ≤ 100 := hM
  refine sB (Balloc hS hR info23 (by rfl) (by rfl) (by decide) ?_); clear hS hR; intro aa ww bb11 hS hR
  refine sB (Bstore hS hR rfl rfl (by rfl) info23 (by rfl) (by repeat (first | with_reducible exact Pk.here | with_reducible apply Pk.there)) (by rfl) (Nat.le_of_ble_eq_true rfl) ?_); clear hR; intro ww hR
  refine wpList_nil ?_
  refine hK174 _ _ ?_
  refine wp_seq_k ?_; intro K175 hK175
  refine wp_region_lit ?_
  refine sA hS hR (Yld.loadAgg hS rfl Try.underlying23 rfl info23 (Rds.cons (Rd.blk (by repeat (first | with_reducible exact Pk.here | with_reducible apply Pk.there)) (by rfl)) (Rds.cons (Rd.blk (by repeat (first | with_reducible exact Pk.here | with_reducible apply Pk.there)) (by rfl)) (Rds.cons (Rd.blk (by repeat (first | with_reducible exact Pk.here | with_reducible apply Pk.there)) (by rfl)) (Rds.nil)))) (by rfl)) (by decide) ?_; clear hS; intro aa hS
  refine sA hS hR (Yld.move hS rfl) (by decide) ?_; clear hS; intro aa hS
  refine sA hS hR (Yld.move hS rfl) (by decide) ?_; clear hS; intro aa hS
  refine sB (Bcall hS rfl Try.call20 (level_ok hR hM) (by decide) ?_); clear hS; intro aa ww vv hS hp
  clear hR
  obtain ⟨⟨lv, at_, hL, hA, rfl⟩, hR⟩ := hp
  refine sB (Balloc hS hR info25 (by rfl) (by rfl) (by decide) ?_); clear hS hR; intro aa ww bb12 hS hR
  refine sB (Bstore hS hR rfl rfl (by rfl) info25 (by rfl) (by repeat (first | with_reducible exact Pk.here | with_reducible apply Pk.there)) (by rfl) (Nat.le_of_ble_eq_true rfl) ?_); clear hR; intro ww hR
  refine wpList_nil ?_
  refine hK175 _ _ ?_
  refine wp_seq_k ?_; intro K176 hK176
  refine wp_region_lit ?_
  refine sA hS hR (Yld.move hS rfl) (by decide) ?_; clear hS; intro aa hS
  refine sB (Bcall hS rfl Try.call15 (modulo_ok hR (by omega)) (by decide) ?_); clear hS; intro aa ww vv hS hp
  clear hR
  obtain ⟨rfl, hR⟩ := hp
  refine sA hS hR (Yld.move hS rfl) (by decide) ?_; clear hS; intro aa hS
  refine sB (Bcall hS rfl Try.call15 (modulo_ok hR (by omega)) (by decide) ?_); clear hS; intro aa ww vv hS hp
  clear hR
  obtain ⟨rfl, hR⟩ := hp
  refine sA hS hR (Yld.assign hS rfl) (by decide) ?_; clear hS; intro aa hS
  refine sA hS hR (Yld.assign hS rfl) (by decide) ?_; clear hS; intro aa hS
  refine wpList_nil ?_
  refine hK176 _ _ ?_
  refine wp_seq_k ?_; intro K177 hK177
  refine wp_region_lit ?_
  refine sA hS hR (Yld.loadAgg hS rfl Try.underlying23 rfl info23 (Rds.cons (Rd.blk (by repeat (first | with_reducible exact Pk.here | with_reducible apply Pk.there)) (by rfl)) (Rds.cons (Rd.blk (by repeat (first | with_reducible exact Pk.here | with_reducible apply Pk.there)) (by rfl)) (Rds.cons (Rd.blk (by repeat (first | with_reducible exact Pk.here | with_reducible apply Pk.there)) (by rfl)) (Rds.nil)))) (by rfl)) (by decide) ?_; clear hS; intro aa hS
  refine sA hS hR (Yld.loadAgg hS rfl Try.underlying25 rfl info25 (Rds.cons (Rd.blk (by repeat (first | with_reducible exact Pk.here | with_reducible apply Pk.there)) (by rfl)) (Rds.cons (Rd.blk (by repeat (first | with_reducible exact Pk.here | with_reducible apply Pk.there)) (by rfl)) (Rds.nil))) (by rfl)) (by decide) ?_; clear hS; intro aa hS
  refine sA hS hR (Yld.fieldAddr hS rfl 1 Try.underlying25 rfl rfl info3 (by decide)) (by decide) ?_; clear hS; intro aa hS
  refine sA hS hR (Yld.load1 hS rfl Try.underlying3 rfl (Rd.blk (by repeat (first | with_reducible exact Pk.here | with_reducible apply Pk.there)) (by rfl))) (by decide) ?_; clear hS; intro aa hS
  refine sA hS hR (Yld.move hS rfl) (by decide) ?_; clear hS; intro aa hS
  refine sA hS hR ((by first | exact Yld.add64 hS rfl rfl (by omega) | exact Yld.add hS rfl rfl)) (by decide) ?_; clear hS; intro aa hS
  refine sB (Bcall hS rfl Try.call21 (Fill_ok hR) (by decide) ?_); clear hS; intro aa ww vv hS hp
  clear hR
  obtain ⟨rfl, hR⟩ := hp
  have hT1 : RT t p b lv at_ (at_ + z % 1048576) := ⟨hM.rb hL (by omega), by omega, by omega⟩
  have hlb1 := lvl_bd hT1
  rw [fillF_pos hT1] at hS; dsimp only at hS
  refine sA hS hR (Yld.move hS rfl) (by decide) ?_; clear hS; intro aa hS
  refine sA hS hR (Yld.extract hS rfl rfl) (by decide) ?_; clear hS; intro aa hS
  refine sA hS hR (Yld.extract hS rfl rfl) (by decide) ?_; clear hS; intro aa hS
  refine sB (Balloc hS hR info25 (by rfl) (by rfl) (by decide) ?_); clear hS hR; intro aa ww bb13 hS hR
  refine sB (Bstore hS hR rfl rfl (by rfl) info25 (by rfl) (by repeat (first | with_reducible exact Pk.here | with_reducible apply Pk.there)) (by rfl) (Nat.le_of_ble_eq_true rfl) ?_); clear hR; intro ww hR
  refine sA hS hR (Yld.assign hS rfl) (by decide) ?_; clear hS; intro aa hS
  refine wpList_nil ?_
  refine hK177 _ _ ?_
  refine wp_seq_k ?_; intro K178 hK178
  refine wp_region_lit ?_
  refine sA hS hR (Yld.loadAgg hS rfl Try.underlying23 rfl info23 (Rds.cons (Rd.blk (by repeat (first | with_reducible exact Pk.here | with_reducible apply Pk.there)) (by rfl)) (Rds.cons (Rd.blk (by repeat (first | with_reducible exact Pk.here | with_reducible apply Pk.there)) (by rfl)) (Rds.cons (Rd.blk (by repeat (first | with_reducible exact Pk.here | with_reducible apply Pk.there)) (by rfl)) (Rds.nil)))) (by rfl)) (by decide) ?_; clear hS; intro aa hS
  refine sA hS hR (Yld.loadAgg hS rfl Try.underlying25 rfl info25 (Rds.cons (Rd.blk (by repeat (first | with_reducible exact Pk.here | with_reducible apply Pk.there)) (by rfl)) (Rds.cons (Rd.blk (by repeat (first | with_reducible exact Pk.here | with_reducible apply Pk.there)) (by rfl)) (Rds.nil))) (by rfl)) (by decide) ?_; clear hS; intro aa hS
  refine sA hS hR (Yld.fieldAddr hS rfl 1 Try.underlying25 rfl rfl info3 (by decide)) (by decide) ?_; clear hS; intro aa hS
  refine sA hS hR (Yld.load1 hS rfl Try.underlying3 rfl (Rd.blk (by repeat (first | with_reducible exact Pk.here | with_reducible apply Pk.there)) (by rfl))) (by decide) ?_; clear hS; intro aa hS
  refine sA hS hR (Yld.move hS rfl) (by decide) ?_; clear hS; intro aa hS
  refine sA hS hR ((by first | exact Yld.add64 hS rfl rfl (by omega) | exact Yld.add hS rfl rfl)) (by decide) ?_; clear hS; intro aa hS
  refine sA hS hR (Yld.move hS rfl) (by decide) ?_; clear hS; intro aa hS
  refine sA hS hR ((by first | exact Yld.add64 hS rfl rfl (by omega) | exact Yld.add hS rfl rfl)) (by decide) ?_; clear hS; intro aa hS
  refine sB (Bcall hS rfl Try.call21 (Fill_ok hR) (by decide) ?_); clear hS; intro aa ww vv hS hp
  clear hR
  obtain ⟨rfl, hR⟩ := hp
  have hT2 : RT t p b (lvl t p b lv at_ (at_ + z % 1048576)) (at_ + z % 1048576) (at_ + z % 1048576 + u % 1048576) := ⟨hT1.rb, by omega, by omega⟩
  rw [fillF_pos hT2] at hS; dsimp only at hS
  refine sA hS hR (Yld.move hS rfl) (by decide) ?_; clear hS; intro aa hS
  refine sA hS hR (Yld.extract hS rfl rfl) (by decide) ?_; clear hS; intro aa hS
  refine sA hS hR (Yld.extract hS rfl rfl) (by decide) ?_; clear hS; intro aa hS
  refine sB (Balloc hS hR info25 (by rfl) (by rfl) (by decide) ?_); clear hS hR; intro aa ww bb15 hS hR
  refine sB (Bstore hS hR rfl rfl (by rfl) info25 (by rfl) (by repeat (first | with_reducible exact Pk.here | with_reducible apply Pk.there)) (by rfl) (Nat.le_of_ble_eq_true rfl) ?_); clear hR; intro ww hR
  refine sA hS hR (Yld.assign hS rfl) (by decide) ?_; clear hS; intro aa hS
  refine wpList_nil ?_
  refine hK178 _ _ ?_
  refine wp_seq_k ?_; intro K179 hK179
  refine wp_region_lit ?_
  refine sA hS hR (Yld.loadAgg hS rfl Try.underlying23 rfl info23 (Rds.cons (Rd.blk (by repeat (first | with_reducible exact Pk.here | with_reducible apply Pk.there)) (by rfl)) (Rds.cons (Rd.blk (by repeat (first | with_reducible exact Pk.here | with_reducible apply Pk.there)) (by rfl)) (Rds.cons (Rd.blk (by repeat (first | with_reducible exact Pk.here | with_reducible apply Pk.there)) (by rfl)) (Rds.nil)))) (by rfl)) (by decide) ?_; clear hS; intro aa hS
  refine sA hS hR (Yld.loadAgg hS rfl Try.underlying25 rfl info25 (Rds.cons (Rd.blk (by repeat (first | with_reducible exact Pk.here | with_reducible apply Pk.there)) (by rfl)) (Rds.cons (Rd.blk (by repeat (first | with_reducible exact Pk.here | with_reducible apply Pk.there)) (by rfl)) (Rds.nil))) (by rfl)) (by decide) ?_; clear hS; intro aa hS
  refine sA hS hR (Yld.fieldAddr hS rfl 1 Try.underlying25 rfl rfl info3 (by decide)) (by decide) ?_; clear hS; intro aa hS
  refine sA hS hR (Yld.load1 hS rfl Try.underlying3 rfl (Rd.blk (by repeat (first | with_reducible exact Pk.here | with_reducible apply Pk.there)) (by rfl))) (by decide) ?_; clear hS; intro aa hS
  refine sA hS hR (Yld.move hS rfl) (by decide) ?_; clear hS; intro aa hS
  refine sA hS hR ((by first | exact Yld.add64 hS rfl rfl (by omega) | exact Yld.add hS rfl rfl)) (by decide) ?_; clear hS; intro aa hS
  refine sA hS hR (Yld.move hS rfl) (by decide) ?_; clear hS; intro aa hS
  refine sA hS hR ((by first | exact Yld.add64 hS rfl rfl (by omega) | exact Yld.add hS rfl rfl)) (by decide) ?_; clear hS; intro aa hS
  refine sB (Bcall hS rfl Try.call21 (Fill_ok hR) (by decide) ?_); clear hS; intro aa ww vv hS hp
  clear hR
  obtain ⟨rfl, hR⟩ := hp
  have hT3 : RT t p b lv at_ (at_ + z % 1048576 + u % 1048576) := ⟨hM.rb hL (by omega), by omega, by omega⟩
  rw [fillF_pos hT3] at hS; dsimp only at hS
  refine sA hS hR (Yld.move hS rfl) (by decide) ?_; clear hS; intro aa hS
  refine sA hS hR (Yld.extract hS rfl rfl) (by decide) ?_; clear hS; intro aa hS
  refine sA hS hR (Yld.extract hS rfl rfl) (by decide) ?_; clear hS; intro aa hS
  refine sB (Balloc hS hR info25 (by rfl) (by rfl) (by decide) ?_); clear hS hR; intro aa ww bb17 hS hR
  refine sB (Bstore hS hR rfl rfl (by rfl) info25 (by rfl) (by repeat (first | with_reducible exact Pk.here | with_reducible apply Pk.there)) (by rfl) (Nat.le_of_ble_eq_true rfl) ?_); clear hR; intro ww hR
  refine sA hS hR (Yld.assign hS rfl) (by decide) ?_; clear hS; intro aa hS
  refine wpList_nil ?_
  refine hK179 _ _ ?_
  refine wp_seq_k ?_; intro K180 hK180
  refine wp_region_lit ?_
  refine sA hS hR (Yld.loadAgg hS rfl Try.underlying23 rfl info23 (Rds.cons (Rd.blk (by repeat (first | with_reducible exact Pk.here | with_reducible apply Pk.there)) (by rfl)) (Rds.cons (Rd.blk (by repeat (first | with_reducible exact Pk.here | with_reducible apply Pk.there)) (by rfl)) (Rds.cons (Rd.blk (by repeat (first | with_reducible exact Pk.here | with_reducible apply Pk.there)) (by rfl)) (Rds.nil)))) (by rfl)) (by decide) ?_; clear hS; intro aa hS
  refine sA hS hR (Yld.loadAgg hS rfl Try.underlying25 rfl info25 (Rds.cons (Rd.blk (by repeat (first | with_reducible exact Pk.here | with_reducible apply Pk.there)) (by rfl)) (Rds.cons (Rd.blk (by repeat (first | with_reducible exact Pk.here | with_reducible apply Pk.there)) (by rfl)) (Rds.nil))) (by rfl)) (by decide) ?_; clear hS; intro aa hS
  refine sA hS hR (Yld.fieldAddr hS rfl 1 Try.underlying25 rfl rfl info3 (by decide)) (by decide) ?_; clear hS; intro aa hS
  refine sA hS hR (Yld.load1 hS rfl Try.underlying3 rfl (Rd.blk (by repeat (first | with_reducible exact Pk.here | with_reducible apply Pk.there)) (by rfl))) (by decide) ?_; clear hS; intro aa hS
  refine sA hS hR ((by first | exact Yld.add64 hS rfl rfl (by omega) | exact Yld.add hS rfl rfl)) (by decide) ?_; clear hS; intro aa hS
  refine sB (Bcall hS rfl Try.call21 (Fill_ok hR) (by decide) ?_); clear hS; intro aa ww vv hS hp
  clear hR
  obtain ⟨rfl, hR⟩ := hp
  have hT4 : RT t p b (lvl t p b lv at_ (at_ + z % 1048576)) (at_ + z % 1048576) (at_ + z % 1048576 + 1) := ⟨hT1.rb, by omega, by omega⟩
  rw [fillF_pos hT4] at hS; dsimp only at hS
  refine sA hS hR (Yld.move hS rfl) (by decide) ?_; clear hS; intro aa hS
  refine sA hS hR (Yld.extract hS rfl rfl) (by decide) ?_; clear hS; intro aa hS
  refine sA hS hR (Yld.extract hS rfl rfl) (by decide) ?_; clear hS; intro aa hS
  refine sB (Balloc hS hR info25 (by rfl) (by rfl) (by decide) ?_); clear hS hR; intro aa ww bb19 hS hR
  refine sB (Bstore hS hR rfl rfl (by rfl) info25 (by rfl) (by repeat (first | with_reducible exact Pk.here | with_reducible apply Pk.there)) (by rfl) (Nat.le_of_ble_eq_true rfl) ?_); clear hR; intro ww hR
  refine sA hS hR (Yld.assign hS rfl) (by decide) ?_; clear hS; intro aa hS
  refine wpList_nil ?_
  refine hK180 _ _ ?_
  refine wp_seq_k ?_; intro K181 hK181
  refine wp_seq_k ?_; intro K182 hK182
  refine wp_region_lit ?_
  refine sA hS hR (Yld.move hS rfl) (by decide) ?_; clear hS; intro aa hS
  refine sA hS hR (Yld.move hS rfl) (by decide) ?_; clear hS; intro aa hS
  refine sA hS hR ((by first | exact Yld.add64 hS rfl rfl (by omega) | exact Yld.add hS rfl rfl)) (by decide) ?_; clear hS; intro aa hS
  refine sA hS hR (Yld.move hS rfl) (by decide) ?_; clear hS; intro aa hS
  refine sA hS hR ((by first | exact Yld.add64 hS rfl rfl (by omega) | exact Yld.add hS rfl rfl)) (by decide) ?_; clear hS; intro aa hS
  refine sA hS hR (Yld.move hS rfl) (by decide) ?_; clear hS; intro aa hS
  refine sA hS hR ((by first | exact Yld.add64 hS rfl rfl (by omega) | exact Yld.add hS rfl rfl)) (by decide) ?_; clear hS; intro aa hS
  refine sA hS hR (Yld.neq hS rfl rfl) (by decide) ?_; clear hS; intro aa hS
  replace hS := hS.sayB (t := 83) false rfl (by simp)
  refine sA hS hR (Yld.move hS rfl) (by decide) ?_; clear hS; intro aa hS
  refine sAg hS hR rfl rfl (Yld.loadAgg hS rfl Try.underlying25 rfl info25 (Rds.cons (Rd.blk (by repeat (first | with_reducible exact Pk.here | with_reducible apply Pk.there)) (by rfl)) (Rds.cons (Rd.blk (by repeat (first | with_reducible exact Pk.here | with_reducible apply Pk.there)) (by rfl)) (Rds.nil))) (by rfl)) (by decide) ?_; clear hS; intro aa hS
  refine sAg hS hR rfl rfl (Yld.loadAgg hS rfl Try.underlying25 rfl info25 (Rds.cons (Rd.blk (by repeat (first | with_reducible exact Pk.here | with_reducible apply Pk.there)) (by rfl)) (Rds.cons (Rd.blk (by repeat (first | with_reducible exact Pk.here | with_reducible apply Pk.there)) (by rfl)) (Rds.nil))) (by rfl)) (by decide) ?_; clear hS; intro aa hS
  refine sAg hS hR rfl rfl (Yld.binRun hS rfl rfl (neq25 _ _ _ _ _ _)) (by decide) ?_; clear hS; intro aa hS
  replace hS := hS.sayB (t := 87) false rfl (by simp [lvl_on (show 0 ≤ t by omega) (show 0 ≤ z % 1048576 by omega) (show 0 ≤ u % 1048576 by omega)])
  refine sA hS hR (Yld.pickF hS rfl rfl) (by decide) ?_; clear hS; intro aa hS
  refine sA hS hR (Yld.move hS rfl) (by decide) ?_; clear hS; intro aa hS
  refine sAg hS hR rfl rfl (Yld.fieldAddr hS rfl 1 Try.underlying25 rfl rfl info3 (by decide)) (by decide) ?_; clear hS; intro aa hS
  refine sAg hS hR rfl rfl (Yld.load1 hS rfl Try.underlying3 rfl (Rd.blk (by repeat (first | with_reducible exact Pk.here | with_reducible apply Pk.there)) (by rfl))) (by decide) ?_; clear hS; intro aa hS
  refine sAg hS hR rfl rfl (Yld.fieldAddr hS rfl 1 Try.underlying25 rfl rfl info3 (by decide)) (by decide) ?_; clear hS; intro aa hS
  refine sAg hS hR rfl rfl (Yld.load1 hS rfl Try.underlying3 rfl (Rd.blk (by repeat (first | with_reducible exact Pk.here | with_reducible apply Pk.there)) (by rfl))) (by decide) ?_; clear hS; intro aa hS
  refine sAg hS hR rfl rfl (Yld.move hS rfl) (by decide) ?_; clear hS; intro aa hS
  refine sAg hS hR rfl rfl ((by first | exact Yld.add64 hS rfl rfl (by omega) | exact Yld.add hS rfl rfl)) (by decide) ?_; clear hS; intro aa hS
  refine sAg hS hR rfl rfl (Yld.neq hS rfl rfl) (by decide) ?_; clear hS; intro aa hS
  replace hS := hS.sayB (t := 96) false rfl (by simp)
  refine sA hS hR (Yld.pickF hS rfl rfl) (by decide) ?_; clear hS; intro aa hS
  refine sA hS hR (Yld.move hS rfl) (by decide) ?_; clear hS; intro aa hS
  refine sAg hS hR rfl rfl (Yld.fieldAddr hS rfl 0 Try.underlying25 rfl rfl info3 (by decide)) (by decide) ?_; clear hS; intro aa hS
  refine sAg hS hR rfl rfl (Yld.load1 hS rfl Try.underlying3 rfl (Rd.blk (by repeat (first | with_reducible exact Pk.here | with_reducible apply Pk.there)) (by rfl))) (by decide) ?_; clear hS; intro aa hS
  refine sAg hS hR rfl rfl (Yld.fieldAddr hS rfl 0 Try.underlying25 rfl rfl info3 (by decide)) (by decide) ?_; clear hS; intro aa hS
  refine sAg hS hR rfl rfl (Yld.load1 hS rfl Try.underlying3 rfl (Rd.blk (by repeat (first | with_reducible exact Pk.here | with_reducible apply Pk.there)) (by rfl))) (by decide) ?_; clear hS; intro aa hS
  refine sAg hS hR rfl rfl (Yld.lss hS rfl rfl) (by decide) ?_; clear hS; intro aa hS
  replace hS := hS.sayB (t := 103) false rfl (by simpa using lvl_ge0 (show 0 ≤ t by omega) (show 0 ≤ z % 1048576 by omega) hL.2)
  refine sA hS hR (Yld.pickF hS rfl rfl) (by decide) ?_; clear hS; intro aa hS
  refine sA hS hR (Yld.move hS rfl) (by decide) ?_; clear hS; intro aa hS
  refine sAg hS hR rfl rfl (Yld.loadAgg hS rfl Try.underlying23 rfl info23 (Rds.cons (Rd.blk (by repeat (first | with_reducible exact Pk.here | with_reducible apply Pk.there)) (by rfl)) (Rds.cons (Rd.blk (by repeat (first | with_reducible exact Pk.here | with_reducible apply Pk.there)) (by rfl)) (Rds.cons (Rd.blk (by repeat (first | with_reducible exact Pk.here | with_reducible apply Pk.there)) (by rfl)) (Rds.nil)))) (by rfl)) (by decide) ?_; clear hS; intro aa hS
  refine sAg hS hR rfl rfl (Yld.loadAgg hS rfl Try.underlying25 rfl info25 (Rds.cons (Rd.blk (by repeat (first | with_reducible exact Pk.here | with_reducible apply Pk.there)) (by rfl)) (Rds.cons (Rd.blk (by repeat (first | with_reducible exact Pk.here | with_reducible apply Pk.there)) (by rfl)) (Rds.nil))) (by rfl)) (by decide) ?_; clear hS; intro aa hS
  refine sBg hS rfl rfl (Bcall hS rfl Try.call19 (Right_ok hR) (by decide) ?_); clear hS; intro aa ww vv hS hp
  clear hR
  obtain ⟨rfl, hR⟩ := hp
  replace hS := hS.sayB (t := 108) true rfl (by exact decide_eq_true hT1.rb)
  refine sAg hS hR rfl rfl (Yld.not hS rfl) (by decide) ?_; clear hS; intro aa hS
  refine sA hS hR (Yld.pickF hS rfl rfl) (by decide) ?_; clear hS; intro aa hS
  refine sA hS hR (Yld.move hS rfl) (by decide) ?_; clear hS; intro aa hS
  refine sAg hS hR rfl rfl (Yld.loadAgg hS rfl Try.underlying23 rfl info23 (Rds.cons (Rd.blk (by repeat (first | with_reducible exact Pk.here | with_reducible apply Pk.there)) (by rfl)) (Rds.cons (Rd.blk (by repeat (first | with_reducible exact Pk.here | with_reducible apply Pk.there)) (by rfl)) (Rds.cons (Rd.blk (by repeat (first | with_reducible exact Pk.here | with_reducible apply Pk.there)) (by rfl)) (Rds.nil)))) (by rfl)) (by decide) ?_; clear hS; intro aa hS
  refine sAg hS hR rfl rfl (Yld.loadAgg hS rfl Try.underlying25 rfl info25 (Rds.cons (Rd.blk (by repeat (first | with_reducible exact Pk.here | with_reducible apply Pk.there)) (by rfl)) (Rds.cons (Rd.blk (by repeat (first | with_reducible exact Pk.here | with_reducible apply Pk.there)) (by rfl)) (Rds.nil))) (by rfl)) (by decide) ?_; clear hS; intro aa hS
  refine sBg hS rfl rfl (Bcall hS rfl Try.call19 (Right_ok hR) (by decide) ?_); clear hS; intro aa ww vv hS hp
  clear hR
  obtain ⟨rfl, hR⟩ := hp
  replace hS := hS.sayB (t := 114) true rfl (by exact decide_eq_true hT3.rb)
  refine sAg hS hR rfl rfl (Yld.not hS rfl) (by decide) ?_; clear hS; intro aa hS
  refine sA hS hR (Yld.pickF hS rfl rfl) (by decide) ?_; clear hS; intro aa hS
  refine wpList_nil ?_
  refine hK182 _ _ ?_
  refine condF hS rfl ?_
  refine wp_skip ?_
  refine hK181 _ _ ?_
  refine wp_seq_k ?_; intro K183 hK183
  refine wp_region_lit ?_
  refine sA hS hR (Yld.fieldAddr hS rfl 0 Try.underlying25 rfl rfl info3 (by decide)) (by decide) ?_; clear hS; intro aa hS
  refine sA hS hR (Yld.load1 hS rfl Try.underlying3 rfl (Rd.blk (by repeat (first | with_reducible exact Pk.here | with_reducible apply Pk.there)) (by rfl))) (by decide) ?_; clear hS; intro aa hS
  refine sA hS hR (Yld.fieldAddr hS rfl 0 Try.underlying25 rfl rfl info3 (by decide)) (by decide) ?_; clear hS; intro aa hS
  refine sA hS hR (Yld.load1 hS rfl Try.underlying3 rfl (Rd.blk (by repeat (first | with_reducible exact Pk.here | with_reducible apply Pk.there)) (by rfl))) (by decide) ?_; clear hS; intro aa hS
  refine sA hS hR (Yld.fieldAddr hS rfl 0 Try.underlying23 rfl rfl info3 (by decide)) (by decide) ?_; clear hS; intro aa hS
  refine sA hS hR (Yld.load1 hS rfl Try.underlying3 rfl (Rd.blk (by repeat (first | with_reducible exact Pk.here | with_reducible apply Pk.there)) (by rfl))) (by decide) ?_; clear hS; intro aa hS
  refine sA hS hR ((by first | exact Yld.add64 hS rfl rfl (by omega) | exact Yld.add hS rfl rfl)) (by decide) ?_; clear hS; intro aa hS
  refine sA hS hR (Yld.fieldAddr hS rfl 2 Try.underlying23 rfl rfl info3 (by decide)) (by decide) ?_; clear hS; intro aa hS
  refine sA hS hR (Yld.load1 hS rfl Try.underlying3 rfl (Rd.blk (by repeat (first | with_reducible exact Pk.here | with_reducible apply Pk.there)) (by rfl))) (by decide) ?_; clear hS; intro aa hS
  refine sA hS hR (Yld.fieldAddr hS rfl 1 Try.underlying23 rfl rfl info3 (by decide)) (by decide) ?_; clear hS; intro aa hS
  refine sA hS hR (Yld.load1 hS rfl Try.underlying3 rfl (Rd.blk (by repeat (first | with_reducible exact Pk.here | with_reducible apply Pk.there)) (by rfl))) (by decide) ?_; clear hS; intro aa hS
  refine sA hS hR ((by first | exact Yld.mul64 hS rfl rfl (by omega) | exact Yld.mul hS rfl rfl)) (by decide) ?_; clear hS; intro aa hS
  refine sA hS hR (Yld.min hS rfl rfl) (by decide) ?_; clear hS; intro aa hS
  refine sA hS hR (Yld.eql hS rfl rfl) (by decide) ?_; clear hS; intro aa hS
  replace hS := hS.sayB (t := 130) true rfl (by rw [lvl_1]; simp)
  refine sA hS hR (Yld.assign hS rfl) (by decide) ?_; clear hS; intro aa hS
  refine wpList_nil ?_
  refine hK183 _ _ ?_
  refine wp_ret ?_
  repeat (first | with_reducible refine thenR ?_ | with_reducible refine blockR ?_ | with_reducible refine scopeR ?_)
  refine ret1 (fn := Try.f6) (e := .ret) (.inl rfl) Try.results6 hS hR ⟨_, (.tmp rfl), ?_⟩
  exact ⟨rfl, (hR.sub (by repeat (first | with_reducible exact Ex.refl | with_reducible apply Ex.drop)))⟩
set_option maxRecDepth 20000 in
theorem BucketWaits_ok {n0 n1 n2 x y z u : Int} {l : List HP} {w : World} (hR : Sep l w) : CallR Try.prog 7 [.agg [.int .i64 n0, .int .i64 n1, .int .i64 n2].toArray, .int .i64 x, .int .i64 y, .int .i64 z, .int .i64 u] w (fun v w' => v = .bool true ∧ Sep l w') := by
  refine enter Try.func7 rfl Try.ntmps7 (Nat.le_of_ble_eq_true rfl) ?_; intro aa hS
  have e0 := emod_bd (n := z) (d := 1048576) (by omega)
  refine wp_seq_k ?_; intro K184 hK184
  refine wp_region_lit ?_
  refine sB (Bbox hS hR rfl (by rfl) (by decide) ?_); clear hS hR; intro aa ww bb5 hS hR
  refine sA hS hR (Yld.assign hS rfl) (by decide) ?_; clear hS; intro aa hS
  refine wpList_nil ?_
  refine hK184 _ _ ?_
  refine wp_seq_k ?_; intro K185 hK185
  refine wp_seq_k ?_; intro K186 hK186
  refine wp_region_lit ?_
  refine sB (Bcall hS rfl Try.call12 (awake_ok hR) (by decide) ?_); clear hS; intro aa ww vv hS hp
  clear hR
  obtain ⟨rfl, hR⟩ := hp
  refine sA hS hR (Yld.not hS rfl) (by decide) ?_; clear hS; intro aa hS
  refine wpList_nil ?_
  refine hK186 _ _ ?_
  refine condF hS rfl ?_
  refine wp_skip ?_
  refine hK185 _ _ ?_
  refine wp_seq_k ?_; intro K187 hK187
  refine wp_region_lit ?_
  refine sA hS hR (Yld.loadAgg hS rfl Try.underlying32 rfl info32 (Rds.cons (Rd.blk (by repeat (first | with_reducible exact Pk.here | with_reducible apply Pk.there)) (by rfl)) (Rds.cons (Rd.blk (by repeat (first | with_reducible exact Pk.here | with_reducible apply Pk.there)) (by rfl)) (Rds.cons (Rd.blk (by repeat (first | with_reducible exact Pk.here | with_reducible apply Pk.there)) (by rfl)) (Rds.nil)))) (by rfl)) (by decide) ?_; clear hS; intro aa hS
  refine sB (Bcall hS rfl Try.call14 (made_ok hR) (by decide) ?_); clear hS; intro aa ww vv hS hp
  clear hR
  obtain ⟨⟨t, p, b, hM, rfl⟩, hR⟩ := hp
  have hmp := hM.most
  have hMd : 1 ≤ t ∧ t ≤ 100 ∧ 1 ≤ p ∧ p ≤ 1000 ∧ 1 ≤ b ∧ b ≤ 100 := hM
  refine sB (Balloc hS hR info23 (by rfl) (by rfl) (by decide) ?_); clear hS hR; intro aa ww bb11 hS hR
  refine sB (Bstore hS hR rfl rfl (by rfl) info23 (by rfl) (by repeat (first | with_reducible exact Pk.here | with_reducible apply Pk.there)) (by rfl) (Nat.le_of_ble_eq_true rfl) ?_); clear hR; intro ww hR
  refine wpList_nil ?_
  refine hK187 _ _ ?_
  refine wp_seq_k ?_; intro K188 hK188
  refine wp_region_lit ?_
  refine sA hS hR (Yld.loadAgg hS rfl Try.underlying23 rfl info23 (Rds.cons (Rd.blk (by repeat (first | with_reducible exact Pk.here | with_reducible apply Pk.there)) (by rfl)) (Rds.cons (Rd.blk (by repeat (first | with_reducible exact Pk.here | with_reducible apply Pk.there)) (by rfl)) (Rds.cons (Rd.blk (by repeat (first | with_reducible exact Pk.here | with_reducible apply Pk.there)) (by rfl)) (Rds.nil)))) (by rfl)) (by decide) ?_; clear hS; intro aa hS
  refine sA hS hR (Yld.move hS rfl) (by decide) ?_; clear hS; intro aa hS
  refine sA hS hR (Yld.move hS rfl) (by decide) ?_; clear hS; intro aa hS
  refine sB (Bcall hS rfl Try.call20 (level_ok hR hM) (by decide) ?_); clear hS; intro aa ww vv hS hp
  clear hR
  obtain ⟨⟨lv, at_, hL, hA, rfl⟩, hR⟩ := hp
  refine sB (Balloc hS hR info25 (by rfl) (by rfl) (by decide) ?_); clear hS hR; intro aa ww bb12 hS hR
  refine sB (Bstore hS hR rfl rfl (by rfl) info25 (by rfl) (by repeat (first | with_reducible exact Pk.here | with_reducible apply Pk.there)) (by rfl) (Nat.le_of_ble_eq_true rfl) ?_); clear hR; intro ww hR
  refine wpList_nil ?_
  refine hK188 _ _ ?_
  refine wp_seq_k ?_; intro K189 hK189
  refine drawn (by kernel_rfl) hR Ex.refl ?_; clear hR; intro ww hR hR0
  refine dA 0 rfl (by kernel_rfl) (by kernel_rfl) (by kernel_rfl) (fun _ _ _ h => h) hS hR0 (Yld.fieldAddr hS rfl 1 Try.underlying25 rfl rfl info3 (by decide)) (by decide) ?_; clear hS; intro aa hS
  refine dA 1 rfl (by kernel_rfl) (by kernel_rfl) (by kernel_rfl) (fun _ _ _ h => h) hS hR0 (Yld.load1 hS rfl Try.underlying3 rfl (Rd.blk (by repeat (first | with_reducible exact Pk.here | with_reducible apply Pk.there)) (by rfl))) (by decide) ?_; clear hS; intro aa hS
  refine dA 2 rfl (by kernel_rfl) (by kernel_rfl) (by kernel_rfl) (fun _ _ _ h => h) hS hR0 (Yld.move hS rfl) (by decide) ?_; clear hS; intro aa hS
  refine dA 5 rfl (by kernel_rfl) (by kernel_rfl) (by kernel_rfl) (fun _ _ _ h => h) hS hR0 (Yld.move hS rfl) (by decide) ?_; clear hS; intro aa hS
  refine dA 6 rfl (by kernel_rfl) (by kernel_rfl) (by kernel_rfl) (fun _ _ _ h => h) hS hR0 (Yld.fieldAddr hS rfl 2 Try.underlying23 rfl rfl info3 (by decide)) (by decide) ?_; clear hS; intro aa hS
  refine dA 7 rfl (by kernel_rfl) (by kernel_rfl) (by kernel_rfl) (fun _ _ _ h => h) hS hR0 (Yld.load1 hS rfl Try.underlying3 rfl (Rd.blk (by repeat (first | with_reducible exact Pk.here | with_reducible apply Pk.there)) (by rfl))) (by decide) ?_; clear hS; intro aa hS
  refine dA 8 rfl (by kernel_rfl) (by kernel_rfl) (by kernel_rfl) (fun _ _ _ h => h) hS hR0 ((by first | exact Yld.add64 hS rfl rfl (by omega) | exact Yld.add hS rfl rfl)) (by decide) ?_; clear hS; intro aa hS
  refine dOne (i := 3) (by kernel_rfl) ?_
  refine dop rfl (Bcall hS rfl Try.call15 (modulo_ok hR (by omega)) (by decide) ?_); clear hS; intro aa ww vv hS hp
  clear hR hR0
  obtain ⟨rfl, hR⟩ := hp
  refine dnext (hR.sub (by repeat (first | with_reducible exact Ex.refl | with_reducible apply Ex.drop))) ?_; intro hR0
  refine dA 4 rfl (by kernel_rfl) (by kernel_rfl) (by kernel_rfl) (fun _ _ _ h => h) hS hR0 ((by first | exact Yld.add64 hS rfl rfl (by omega) | exact Yld.add hS rfl rfl)) (by decide) ?_; clear hS; intro aa hS
  refine dOne (i := 9) (by kernel_rfl) ?_
  refine dop rfl (Bcall hS rfl Try.call15 (modulo_ok hR (by omega)) (by decide) ?_); clear hS; intro aa ww vv hS hp
  clear hR hR0
  obtain ⟨rfl, hR⟩ := hp
  refine dnext (hR.sub (by repeat (first | with_reducible exact Ex.refl | with_reducible apply Ex.drop))) ?_; intro hR0
  refine dA 10 rfl (by kernel_rfl) (by kernel_rfl) (by kernel_rfl) (fun _ _ _ h => h) hS hR0 (Yld.assign hS rfl) (by decide) ?_; clear hS; intro aa hS
  refine dA 11 rfl (by kernel_rfl) (by kernel_rfl) (by kernel_rfl) (fun _ _ _ h => h) hS hR0 (Yld.assign hS rfl) (by decide) ?_; clear hS; intro aa hS
  refine wpAnyH_done (by kernel_rfl) ?_ _; clear hR0
  refine hK189 _ _ ?_
  refine wp_seq_k ?_; intro K190 hK190
  refine wp_region_lit ?_
  refine sA hS hR (Yld.loadAgg hS rfl Try.underlying23 rfl info23 (Rds.cons (Rd.blk (by repeat (first | with_reducible exact Pk.here | with_reducible apply Pk.there)) (by rfl)) (Rds.cons (Rd.blk (by repeat (first | with_reducible exact Pk.here | with_reducible apply Pk.there)) (by rfl)) (Rds.cons (Rd.blk (by repeat (first | with_reducible exact Pk.here | with_reducible apply Pk.there)) (by rfl)) (Rds.nil)))) (by rfl)) (by decide) ?_; clear hS; intro aa hS
  refine sA hS hR (Yld.loadAgg hS rfl Try.underlying25 rfl info25 (Rds.cons (Rd.blk (by repeat (first | with_reducible exact Pk.here | with_reducible apply Pk.there)) (by rfl)) (Rds.cons (Rd.blk (by repeat (first | with_reducible exact Pk.here | with_reducible apply Pk.there)) (by rfl)) (Rds.nil))) (by rfl)) (by decide) ?_; clear hS; intro aa hS
  refine sA hS hR (Yld.move hS rfl) (by decide) ?_; clear hS; intro aa hS
  refine sB (Bcall hS rfl Try.call22 (Tokens_ok hR) (by decide) ?_); clear hS; intro aa ww vv hS hp
  clear hR
  obtain ⟨rfl, hR⟩ := hp
  have hT : RT t p b lv at_ (at_ + z % 1048576) := ⟨hM.rb hL (by omega), by omega, by omega⟩
  have e1 := emod_bd (n := u) (d := b + 1) (by omega)
  rw [tokF_pos hT] at hS; dsimp only at hS
  refine sA hS hR (Yld.move hS rfl) (by decide) ?_; clear hS; intro aa hS
  refine sA hS hR (Yld.extract hS rfl rfl) (by decide) ?_; clear hS; intro aa hS
  refine sA hS hR (Yld.extract hS rfl rfl) (by decide) ?_; clear hS; intro aa hS
  refine sA hS hR (Yld.assign hS rfl) (by decide) ?_; clear hS; intro aa hS
  refine sA hS hR (Yld.assign hS rfl) (by decide) ?_; clear hS; intro aa hS
  refine wpList_nil ?_
  refine hK190 _ _ ?_
  refine wp_seq_k ?_; intro K191 hK191
  refine wp_region_lit ?_
  refine sA hS hR (Yld.loadAgg hS rfl Try.underlying23 rfl info23 (Rds.cons (Rd.blk (by repeat (first | with_reducible exact Pk.here | with_reducible apply Pk.there)) (by rfl)) (Rds.cons (Rd.blk (by repeat (first | with_reducible exact Pk.here | with_reducible apply Pk.there)) (by rfl)) (Rds.cons (Rd.blk (by repeat (first | with_reducible exact Pk.here | with_reducible apply Pk.there)) (by rfl)) (Rds.nil)))) (by rfl)) (by decide) ?_; clear hS; intro aa hS
  refine sA hS hR (Yld.loadAgg hS rfl Try.underlying25 rfl info25 (Rds.cons (Rd.blk (by repeat (first | with_reducible exact Pk.here | with_reducible apply Pk.there)) (by rfl)) (Rds.cons (Rd.blk (by repeat (first | with_reducible exact Pk.here | with_reducible apply Pk.there)) (by rfl)) (Rds.nil))) (by rfl)) (by decide) ?_; clear hS; intro aa hS
  refine sA hS hR (Yld.move hS rfl) (by decide) ?_; clear hS; intro aa hS
  refine sA hS hR (Yld.move hS rfl) (by decide) ?_; clear hS; intro aa hS
  refine sB (Bcall hS rfl Try.call23 (Wait_ok hR) (by decide) ?_); clear hS; intro aa ww vv hS hp
  clear hR
  obtain ⟨rfl, hR⟩ := hp
  have hwb := wait_bd hT e1.1 (show u % (b + 1) ≤ b by omega)
  rw [waitF_ok hT e1.1 (by omega)] at hS; dsimp only at hS
  refine sA hS hR (Yld.move hS rfl) (by decide) ?_; clear hS; intro aa hS
  refine sA hS hR (Yld.extract hS rfl rfl) (by decide) ?_; clear hS; intro aa hS
  refine sA hS hR (Yld.extract hS rfl rfl) (by decide) ?_; clear hS; intro aa hS
  refine sA hS hR (Yld.assign hS rfl) (by decide) ?_; clear hS; intro aa hS
  refine sA hS hR (Yld.assign hS rfl) (by decide) ?_; clear hS; intro aa hS
  refine wpList_nil ?_
  refine hK191 _ _ ?_
  refine wp_seq_k ?_; intro K192 hK192
  refine wp_seq_k ?_; intro K193 hK193
  refine wp_region_lit ?_
  refine sA hS hR (Yld.move hS rfl) (by decide) ?_; clear hS; intro aa hS
  refine sA hS hR (Yld.move hS rfl) (by decide) ?_; clear hS; intro aa hS
  refine sA hS hR ((by first | exact Yld.add64 hS rfl rfl (by omega) | exact Yld.add hS rfl rfl)) (by decide) ?_; clear hS; intro aa hS
  refine sA hS hR (Yld.neq hS rfl rfl) (by decide) ?_; clear hS; intro aa hS
  replace hS := hS.sayB (t := 58) false rfl (by simp)
  refine sA hS hR (Yld.move hS rfl) (by decide) ?_; clear hS; intro aa hS
  refine sAg hS hR rfl rfl (Yld.move hS rfl) (by decide) ?_; clear hS; intro aa hS
  refine sAg hS hR rfl rfl (Yld.lss hS rfl rfl) (by decide) ?_; clear hS; intro aa hS
  replace hS := hS.sayB (t := 61) false rfl (by simp only [decide_eq_false_iff_not]; omega)
  refine sA hS hR (Yld.pickF hS rfl rfl) (by decide) ?_; clear hS; intro aa hS
  refine sA hS hR (Yld.move hS rfl) (by decide) ?_; clear hS; intro aa hS
  refine sAg hS hR rfl rfl (Yld.move hS rfl) (by decide) ?_; clear hS; intro aa hS
  refine sAg hS hR rfl rfl (Yld.eql hS rfl rfl) (by decide) ?_; clear hS; intro aa hS
  refine sAg hS hR rfl rfl (Yld.move hS rfl) (by decide) ?_; clear hS; intro aa hS
  refine sAg hS hR rfl rfl (Yld.move hS rfl) (by decide) ?_; clear hS; intro aa hS
  refine sAg hS hR rfl rfl (Yld.leq hS rfl rfl) (by decide) ?_; clear hS; intro aa hS
  refine sAg hS hR rfl rfl (Yld.neqB hS rfl rfl Try.underlying4) (by decide) ?_; clear hS; intro aa hS
  replace hS := hS.sayB (t := 69) false rfl (by have := wait_iff hT e1.1 (show u % (b + 1) ≤ b by omega); simp [this])
  refine sA hS hR (Yld.pickF hS rfl rfl) (by decide) ?_; clear hS; intro aa hS
  refine wpList_nil ?_
  refine hK193 _ _ ?_
  refine condF hS rfl ?_
  refine wp_skip ?_
  refine hK192 _ _ ?_
  refine wp_seq_k ?_; intro K194 hK194
  refine wp_region_lit ?_
  refine sA hS hR (Yld.loadAgg hS rfl Try.underlying23 rfl info23 (Rds.cons (Rd.blk (by repeat (first | with_reducible exact Pk.here | with_reducible apply Pk.there)) (by rfl)) (Rds.cons (Rd.blk (by repeat (first | with_reducible exact Pk.here | with_reducible apply Pk.there)) (by rfl)) (Rds.cons (Rd.blk (by repeat (first | with_reducible exact Pk.here | with_reducible apply Pk.there)) (by rfl)) (Rds.nil)))) (by rfl)) (by decide) ?_; clear hS; intro aa hS
  refine sA hS hR (Yld.loadAgg hS rfl Try.underlying25 rfl info25 (Rds.cons (Rd.blk (by repeat (first | with_reducible exact Pk.here | with_reducible apply Pk.there)) (by rfl)) (Rds.cons (Rd.blk (by repeat (first | with_reducible exact Pk.here | with_reducible apply Pk.there)) (by rfl)) (Rds.nil))) (by rfl)) (by decide) ?_; clear hS; intro aa hS
  refine sA hS hR (Yld.move hS rfl) (by decide) ?_; clear hS; intro aa hS
  refine sA hS hR (Yld.move hS rfl) (by decide) ?_; clear hS; intro aa hS
  refine sA hS hR ((by first | exact Yld.add64 hS rfl rfl (by omega) | exact Yld.add hS rfl rfl)) (by decide) ?_; clear hS; intro aa hS
  refine sA hS hR (Yld.move hS rfl) (by decide) ?_; clear hS; intro aa hS
  refine sB (Bcall hS rfl Try.call17 (Take_ok hR) (by decide) ?_); clear hS; intro aa ww vv hS hp
  clear hR
  obtain ⟨rfl, hR⟩ := hp
  have ha := take_after hT e1.1 (show u % (b + 1) ≤ b by omega) rfl (by omega)
  rw [ha.1] at hS; dsimp only at hS
  refine sA hS hR (Yld.move hS rfl) (by decide) ?_; clear hS; intro aa hS
  refine sA hS hR (Yld.extract hS rfl rfl) (by decide) ?_; clear hS; intro aa hS
  refine sA hS hR (Yld.extract hS rfl rfl) (by decide) ?_; clear hS; intro aa hS
  refine sB (Balloc hS hR info25 (by rfl) (by rfl) (by decide) ?_); clear hS hR; intro aa ww bb18 hS hR
  refine sB (Bstore hS hR rfl rfl (by rfl) info25 (by rfl) (by repeat (first | with_reducible exact Pk.here | with_reducible apply Pk.there)) (by rfl) (Nat.le_of_ble_eq_true rfl) ?_); clear hR; intro ww hR
  refine sA hS hR (Yld.assign hS rfl) (by decide) ?_; clear hS; intro aa hS
  refine wpList_nil ?_
  refine hK194 _ _ ?_
  refine wp_seq_k ?_; intro K195 hK195
  refine wp_seq_k ?_; intro K196 hK196
  refine wp_region_lit ?_
  refine sA hS hR (Yld.move hS rfl) (by decide) ?_; clear hS; intro aa hS
  refine sA hS hR (Yld.neq hS rfl rfl) (by decide) ?_; clear hS; intro aa hS
  replace hS := hS.sayB (t := 82) false rfl (by simp)
  refine sA hS hR (Yld.move hS rfl) (by decide) ?_; clear hS; intro aa hS
  refine sAg hS hR rfl rfl (Yld.move hS rfl) (by decide) ?_; clear hS; intro aa hS
  refine sAg hS hR rfl rfl (Yld.gtr hS rfl rfl) (by decide) ?_; clear hS; intro aa hS
  refine sAg hS hR rfl rfl (Yld.move hS rfl) (by decide) ?_; clear hS; intro aa hS
  refine hS.splitB (t := 86) rfl ?_ ?_ <;> clear hS
  · intro hg hS
    refine sAg hS hR rfl rfl (Yld.fieldAddr hS rfl 0 Try.underlying25 rfl rfl info3 (by decide)) (by decide) ?_; clear hS; intro aa hS
    refine sAg hS hR rfl rfl (Yld.load1 hS rfl Try.underlying3 rfl (Rd.blk (by repeat (first | with_reducible exact Pk.here | with_reducible apply Pk.there)) (by rfl))) (by decide) ?_; clear hS; intro aa hS
    refine sAg hS hR rfl rfl (Yld.fieldAddr hS rfl 0 Try.underlying23 rfl rfl info3 (by decide)) (by decide) ?_; clear hS; intro aa hS
    refine sAg hS hR rfl rfl (Yld.load1 hS rfl Try.underlying3 rfl (Rd.blk (by repeat (first | with_reducible exact Pk.here | with_reducible apply Pk.there)) (by rfl))) (by decide) ?_; clear hS; intro aa hS
    refine sAg hS hR rfl rfl (Yld.geq hS rfl rfl) (by decide) ?_; clear hS; intro aa hS
    replace hS := hS.sayB (t := 91) false rfl (by simp only [decide_eq_false_iff_not]; have := ha.2 hg; omega)
    refine sAg hS hR rfl rfl (Yld.pickT hS rfl rfl) (by decide) ?_; clear hS; intro aa hS
    refine sA hS hR (Yld.pickF hS rfl rfl) (by decide) ?_; clear hS; intro aa hS
    refine wpList_nil ?_
    refine hK196 _ _ ?_
    refine condF hS rfl ?_
    refine wp_skip ?_
    refine hK195 _ _ ?_
    refine wp_seq_k ?_; intro K197 hK197
    refine wp_seq_k ?_; intro K198 hK198
    refine wp_region_lit ?_
    refine sA hS hR (Yld.move hS rfl) (by decide) ?_; clear hS; intro aa hS
    refine sA hS hR (Yld.eql hS rfl rfl) (by decide) ?_; clear hS; intro aa hS
    refine wpList_nil ?_
    refine hK198 _ _ ?_
    refine hS.splitB (t := 95) rfl ?_ ?_ <;> clear hS
    · intro hg hS
      refine condT hS rfl ?_
      refine wp_seq_k ?_; intro K199 hK199
      refine wp_region_lit ?_
      refine sA hS hR (Yld.assign hS rfl) (by decide) ?_; clear hS; intro aa hS
      refine wpList_nil ?_
      refine hK199 _ _ ?_
      refine wp_ret ?_
      repeat (first | with_reducible refine thenR ?_ | with_reducible refine blockR ?_ | with_reducible refine scopeR ?_)
      refine ret1 (fn := Try.f7) (e := .ret) (.inl rfl) Try.results7 hS hR ⟨_, (.tmp rfl), ?_⟩
      exact ⟨rfl, (hR.sub (by repeat (first | with_reducible exact Ex.refl | with_reducible apply Ex.drop)))⟩
    · intro hg hS
      refine condF hS rfl ?_
      refine wp_skip ?_
      refine hK197 _ _ ?_
      refine wp_seq_k ?_; intro K200 hK200
      refine wp_region_lit ?_
      refine sA hS hR (Yld.loadAgg hS rfl Try.underlying23 rfl info23 (Rds.cons (Rd.blk (by repeat (first | with_reducible exact Pk.here | with_reducible apply Pk.there)) (by rfl)) (Rds.cons (Rd.blk (by repeat (first | with_reducible exact Pk.here | with_reducible apply Pk.there)) (by rfl)) (Rds.cons (Rd.blk (by repeat (first | with_reducible exact Pk.here | with_reducible apply Pk.there)) (by rfl)) (Rds.nil)))) (by rfl)) (by decide) ?_; clear hS; intro aa hS
      refine sA hS hR (Yld.loadAgg hS rfl Try.underlying25 rfl info25 (Rds.cons (Rd.blk (by repeat (first | with_reducible exact Pk.here | with_reducible apply Pk.there)) (by rfl)) (Rds.cons (Rd.blk (by repeat (first | with_reducible exact Pk.here | with_reducible apply Pk.there)) (by rfl)) (Rds.nil))) (by rfl)) (by decide) ?_; clear hS; intro aa hS
      refine sA hS hR (Yld.move hS rfl) (by decide) ?_; clear hS; intro aa hS
      refine sA hS hR (Yld.move hS rfl) (by decide) ?_; clear hS; intro aa hS
      refine sA hS hR ((by first | exact Yld.add64 hS rfl rfl (by omega) | exact Yld.add hS rfl rfl)) (by decide) ?_; clear hS; intro aa hS
      refine sA hS hR ((by first | exact Yld.sub64 hS rfl rfl (by omega) | exact Yld.sub hS rfl rfl)) (by decide) ?_; clear hS; intro aa hS
      refine sA hS hR (Yld.move hS rfl) (by decide) ?_; clear hS; intro aa hS
      refine sB (Bcall hS rfl Try.call17 (Take_ok hR) (by decide) ?_); clear hS; intro aa ww vv hS hp
      clear hR
      obtain ⟨rfl, hR⟩ := hp
      rw [take_before hT e1.1 (show u % (b + 1) ≤ b by omega) rfl (by omega) hg] at hS; dsimp only at hS
      refine sA hS hR (Yld.move hS rfl) (by decide) ?_; clear hS; intro aa hS
      refine sA hS hR (Yld.extract hS rfl rfl) (by decide) ?_; clear hS; intro aa hS
      refine sA hS hR (Yld.extract hS rfl rfl) (by decide) ?_; clear hS; intro aa hS
      refine sB (Balloc hS hR info25 (by rfl) (by rfl) (by decide) ?_); clear hS hR; intro aa ww bb20 hS hR
      refine sB (Bstore hS hR rfl rfl (by rfl) info25 (by rfl) (by repeat (first | with_reducible exact Pk.here | with_reducible apply Pk.there)) (by rfl) (Nat.le_of_ble_eq_true rfl) ?_); clear hR; intro ww hR
      refine sA hS hR (Yld.assign hS rfl) (by decide) ?_; clear hS; intro aa hS
      refine wpList_nil ?_
      refine hK200 _ _ ?_
      refine wp_seq_k ?_; intro K201 hK201
      refine wp_region_lit ?_
      refine sA hS hR (Yld.move hS rfl) (by decide) ?_; clear hS; intro aa hS
      refine sA hS hR (Yld.eql hS rfl rfl) (by decide) ?_; clear hS; intro aa hS
      replace hS := hS.sayB (t := 108) true rfl (by simp)
      refine sA hS hR (Yld.assign hS rfl) (by decide) ?_; clear hS; intro aa hS
      refine wpList_nil ?_
      refine hK201 _ _ ?_
      refine wp_ret ?_
      repeat (first | with_reducible refine thenR ?_ | with_reducible refine blockR ?_ | with_reducible refine scopeR ?_)
      refine ret1 (fn := Try.f7) (e := .ret) (.inl rfl) Try.results7 hS hR ⟨_, (.tmp rfl), ?_⟩
      exact ⟨rfl, (hR.sub (by repeat (first | with_reducible exact Ex.refl | with_reducible apply Ex.drop)))⟩
  · intro hg hS
    refine sSkip hS rfl rfl rfl (by decide) ?_; clear hS; intro aa hS
    refine sSkip hS rfl rfl rfl (by decide) ?_; clear hS; intro aa hS
    refine sSkip hS rfl rfl rfl (by decide) ?_; clear hS; intro aa hS
    refine sSkip hS rfl rfl rfl (by decide) ?_; clear hS; intro aa hS
    refine sSkip hS rfl rfl rfl (by decide) ?_; clear hS; intro aa hS
    refine sAg hS hR rfl rfl (Yld.pickF hS rfl rfl) (by decide) ?_; clear hS; intro aa hS
    refine sA hS hR (Yld.pickF hS rfl rfl) (by decide) ?_; clear hS; intro aa hS
    refine wpList_nil ?_
    refine hK196 _ _ ?_
    refine condF hS rfl ?_
    refine wp_skip ?_
    refine hK195 _ _ ?_
    refine wp_seq_k ?_; intro K202 hK202
    refine wp_seq_k ?_; intro K203 hK203
    refine wp_region_lit ?_
    refine sA hS hR (Yld.move hS rfl) (by decide) ?_; clear hS; intro aa hS
    refine sA hS hR (Yld.eql hS rfl rfl) (by decide) ?_; clear hS; intro aa hS
    refine wpList_nil ?_
    refine hK203 _ _ ?_
    refine hS.splitB (t := 95) rfl ?_ ?_ <;> clear hS
    · intro hg hS
      refine condT hS rfl ?_
      refine wp_seq_k ?_; intro K204 hK204
      refine wp_region_lit ?_
      refine sA hS hR (Yld.assign hS rfl) (by decide) ?_; clear hS; intro aa hS
      refine wpList_nil ?_
      refine hK204 _ _ ?_
      refine wp_ret ?_
      repeat (first | with_reducible refine thenR ?_ | with_reducible refine blockR ?_ | with_reducible refine scopeR ?_)
      refine ret1 (fn := Try.f7) (e := .ret) (.inl rfl) Try.results7 hS hR ⟨_, (.tmp rfl), ?_⟩
      exact ⟨rfl, (hR.sub (by repeat (first | with_reducible exact Ex.refl | with_reducible apply Ex.drop)))⟩
    · intro hg hS
      refine condF hS rfl ?_
      refine wp_skip ?_
      refine hK202 _ _ ?_
      refine wp_seq_k ?_; intro K205 hK205
      refine wp_region_lit ?_
      refine sA hS hR (Yld.loadAgg hS rfl Try.underlying23 rfl info23 (Rds.cons (Rd.blk (by repeat (first | with_reducible exact Pk.here | with_reducible apply Pk.there)) (by rfl)) (Rds.cons (Rd.blk (by repeat (first | with_reducible exact Pk.here | with_reducible apply Pk.there)) (by rfl)) (Rds.cons (Rd.blk (by repeat (first | with_reducible exact Pk.here | with_reducible apply Pk.there)) (by rfl)) (Rds.nil)))) (by rfl)) (by decide) ?_; clear hS; intro aa hS
      refine sA hS hR (Yld.loadAgg hS rfl Try.underlying25 rfl info25 (Rds.cons (Rd.blk (by repeat (first | with_reducible exact Pk.here | with_reducible apply Pk.there)) (by rfl)) (Rds.cons (Rd.blk (by repeat (first | with_reducible exact Pk.here | with_reducible apply Pk.there)) (by rfl)) (Rds.nil))) (by rfl)) (by decide) ?_; clear hS; intro aa hS
      refine sA hS hR (Yld.move hS rfl) (by decide) ?_; clear hS; intro aa hS
      refine sA hS hR (Yld.move hS rfl) (by decide) ?_; clear hS; intro aa hS
      refine sA hS hR ((by first | exact Yld.add64 hS rfl rfl (by omega) | exact Yld.add hS rfl rfl)) (by decide) ?_; clear hS; intro aa hS
      refine sA hS hR ((by first | exact Yld.sub64 hS rfl rfl (by omega) | exact Yld.sub hS rfl rfl)) (by decide) ?_; clear hS; intro aa hS
      refine sA hS hR (Yld.move hS rfl) (by decide) ?_; clear hS; intro aa hS
      refine sB (Bcall hS rfl Try.call17 (Take_ok hR) (by decide) ?_); clear hS; intro aa ww vv hS hp
      clear hR
      obtain ⟨rfl, hR⟩ := hp
      rw [take_before hT e1.1 (show u % (b + 1) ≤ b by omega) rfl (by omega) hg] at hS; dsimp only at hS
      refine sA hS hR (Yld.move hS rfl) (by decide) ?_; clear hS; intro aa hS
      refine sA hS hR (Yld.extract hS rfl rfl) (by decide) ?_; clear hS; intro aa hS
      refine sA hS hR (Yld.extract hS rfl rfl) (by decide) ?_; clear hS; intro aa hS
      refine sB (Balloc hS hR info25 (by rfl) (by rfl) (by decide) ?_); clear hS hR; intro aa ww bb20 hS hR
      refine sB (Bstore hS hR rfl rfl (by rfl) info25 (by rfl) (by repeat (first | with_reducible exact Pk.here | with_reducible apply Pk.there)) (by rfl) (Nat.le_of_ble_eq_true rfl) ?_); clear hR; intro ww hR
      refine sA hS hR (Yld.assign hS rfl) (by decide) ?_; clear hS; intro aa hS
      refine wpList_nil ?_
      refine hK205 _ _ ?_
      refine wp_seq_k ?_; intro K206 hK206
      refine wp_region_lit ?_
      refine sA hS hR (Yld.move hS rfl) (by decide) ?_; clear hS; intro aa hS
      refine sA hS hR (Yld.eql hS rfl rfl) (by decide) ?_; clear hS; intro aa hS
      replace hS := hS.sayB (t := 108) true rfl (by simp)
      refine sA hS hR (Yld.assign hS rfl) (by decide) ?_; clear hS; intro aa hS
      refine wpList_nil ?_
      refine hK206 _ _ ?_
      refine wp_ret ?_
      repeat (first | with_reducible refine thenR ?_ | with_reducible refine blockR ?_ | with_reducible refine scopeR ?_)
      refine ret1 (fn := Try.f7) (e := .ret) (.inl rfl) Try.results7 hS hR ⟨_, (.tmp rfl), ?_⟩
      exact ⟨rfl, (hR.sub (by repeat (first | with_reducible exact Ex.refl | with_reducible apply Ex.drop)))⟩
set_option maxRecDepth 20000 in
theorem BucketTakes_ok {n0 n1 n2 x y z u y2 : Int} {l : List HP} {w : World} (hR : Sep l w) : CallR Try.prog 8 [.agg [.int .i64 n0, .int .i64 n1, .int .i64 n2].toArray, .int .i64 x, .int .i64 y, .int .i64 z, .int .i64 u, .int .i64 y2] w (fun v w' => v = .bool true ∧ Sep l w') := by
  refine enter Try.func8 rfl Try.ntmps8 (Nat.le_of_ble_eq_true rfl) ?_; intro aa hS
  have e0 := emod_bd (n := z) (d := 1048576) (by omega)
  refine wp_seq_k ?_; intro K207 hK207
  refine wp_region_lit ?_
  refine sB (Bbox hS hR rfl (by rfl) (by decide) ?_); clear hS hR; intro aa ww bb6 hS hR
  refine sA hS hR (Yld.assign hS rfl) (by decide) ?_; clear hS; intro aa hS
  refine wpList_nil ?_
  refine hK207 _ _ ?_
  refine wp_seq_k ?_; intro K208 hK208
  refine wp_seq_k ?_; intro K209 hK209
  refine wp_region_lit ?_
  refine sB (Bcall hS rfl Try.call12 (awake_ok hR) (by decide) ?_); clear hS; intro aa ww vv hS hp
  clear hR
  obtain ⟨rfl, hR⟩ := hp
  refine sA hS hR (Yld.not hS rfl) (by decide) ?_; clear hS; intro aa hS
  refine wpList_nil ?_
  refine hK209 _ _ ?_
  refine condF hS rfl ?_
  refine wp_skip ?_
  refine hK208 _ _ ?_
  refine wp_seq_k ?_; intro K210 hK210
  refine wp_region_lit ?_
  refine sA hS hR (Yld.loadAgg hS rfl Try.underlying32 rfl info32 (Rds.cons (Rd.blk (by repeat (first | with_reducible exact Pk.here | with_reducible apply Pk.there)) (by rfl)) (Rds.cons (Rd.blk (by repeat (first | with_reducible exact Pk.here | with_reducible apply Pk.there)) (by rfl)) (Rds.cons (Rd.blk (by repeat (first | with_reducible exact Pk.here | with_reducible apply Pk.there)) (by rfl)) (Rds.nil)))) (by rfl)) (by decide) ?_; clear hS; intro aa hS
  refine sB (Bcall hS rfl Try.call14 (made_ok hR) (by decide) ?_); clear hS; intro aa ww vv hS hp
  clear hR
  obtain ⟨⟨t, p, b, hM, rfl⟩, hR⟩ := hp
  have hmp := hM.most
  have hMd : 1 ≤ t ∧ t ≤ 100 ∧ 1 ≤ p ∧ p ≤ 1000 ∧ 1 ≤ b ∧ b ≤ 100 := hM
  refine sB (Balloc hS hR info23 (by rfl) (by rfl) (by decide) ?_); clear hS hR; intro aa ww bb13 hS hR
  refine sB (Bstore hS hR rfl rfl (by rfl) info23 (by rfl) (by repeat (first | with_reducible exact Pk.here | with_reducible apply Pk.there)) (by rfl) (Nat.le_of_ble_eq_true rfl) ?_); clear hR; intro ww hR
  refine wpList_nil ?_
  refine hK210 _ _ ?_
  refine wp_seq_k ?_; intro K211 hK211
  refine wp_region_lit ?_
  refine sA hS hR (Yld.loadAgg hS rfl Try.underlying23 rfl info23 (Rds.cons (Rd.blk (by repeat (first | with_reducible exact Pk.here | with_reducible apply Pk.there)) (by rfl)) (Rds.cons (Rd.blk (by repeat (first | with_reducible exact Pk.here | with_reducible apply Pk.there)) (by rfl)) (Rds.cons (Rd.blk (by repeat (first | with_reducible exact Pk.here | with_reducible apply Pk.there)) (by rfl)) (Rds.nil)))) (by rfl)) (by decide) ?_; clear hS; intro aa hS
  refine sA hS hR (Yld.move hS rfl) (by decide) ?_; clear hS; intro aa hS
  refine sA hS hR (Yld.move hS rfl) (by decide) ?_; clear hS; intro aa hS
  refine sB (Bcall hS rfl Try.call20 (level_ok hR hM) (by decide) ?_); clear hS; intro aa ww vv hS hp
  clear hR
  obtain ⟨⟨lv, at_, hL, hA, rfl⟩, hR⟩ := hp
  refine sB (Balloc hS hR info25 (by rfl) (by rfl) (by decide) ?_); clear hS hR; intro aa ww bb14 hS hR
  refine sB (Bstore hS hR rfl rfl (by rfl) info25 (by rfl) (by repeat (first | with_reducible exact Pk.here | with_reducible apply Pk.there)) (by rfl) (Nat.le_of_ble_eq_true rfl) ?_); clear hR; intro ww hR
  refine wpList_nil ?_
  refine hK211 _ _ ?_
  refine wp_seq_k ?_; intro K212 hK212
  refine drawn (by kernel_rfl) hR Ex.refl ?_; clear hR; intro ww hR hR0
  refine dA 0 rfl (by kernel_rfl) (by kernel_rfl) (by kernel_rfl) (fun _ _ _ h => h) hS hR0 (Yld.fieldAddr hS rfl 1 Try.underlying25 rfl rfl info3 (by decide)) (by decide) ?_; clear hS; intro aa hS
  refine dA 1 rfl (by kernel_rfl) (by kernel_rfl) (by kernel_rfl) (fun _ _ _ h => h) hS hR0 (Yld.load1 hS rfl Try.underlying3 rfl (Rd.blk (by repeat (first | with_reducible exact Pk.here | with_reducible apply Pk.there)) (by rfl))) (by decide) ?_; clear hS; intro aa hS
  refine dA 2 rfl (by kernel_rfl) (by kernel_rfl) (by kernel_rfl) (fun _ _ _ h => h) hS hR0 (Yld.move hS rfl) (by decide) ?_; clear hS; intro aa hS
  refine dOne (i := 3) (by kernel_rfl) ?_
  refine dop rfl (Bcall hS rfl Try.call15 (modulo_ok hR (by omega)) (by decide) ?_); clear hS; intro aa ww vv hS hp
  clear hR hR0
  obtain ⟨rfl, hR⟩ := hp
  refine dnext (hR.sub (by repeat (first | with_reducible exact Ex.refl | with_reducible apply Ex.drop))) ?_; intro hR0
  refine dA 4 rfl (by kernel_rfl) (by kernel_rfl) (by kernel_rfl) (fun _ _ _ h => h) hS hR0 ((by first | exact Yld.add64 hS rfl rfl (by omega) | exact Yld.add hS rfl rfl)) (by decide) ?_; clear hS; intro aa hS
  refine dA 5 rfl (by kernel_rfl) (by kernel_rfl) (by kernel_rfl) (fun _ _ _ h => h) hS hR0 (Yld.assign hS rfl) (by decide) ?_; clear hS; intro aa hS
  refine wpAnyH_done (by kernel_rfl) ?_ _; clear hR0
  refine hK212 _ _ ?_
  refine wp_seq_k ?_; intro K213 hK213
  refine wp_region_lit ?_
  refine sA hS hR (Yld.move hS rfl) (by decide) ?_; clear hS; intro aa hS
  refine sA hS hR (Yld.fieldAddr hS rfl 2 Try.underlying23 rfl rfl info3 (by decide)) (by decide) ?_; clear hS; intro aa hS
  refine sA hS hR (Yld.load1 hS rfl Try.underlying3 rfl (Rd.blk (by repeat (first | with_reducible exact Pk.here | with_reducible apply Pk.there)) (by rfl))) (by decide) ?_; clear hS; intro aa hS
  refine sA hS hR ((by first | exact Yld.add64 hS rfl rfl (by omega) | exact Yld.add hS rfl rfl)) (by decide) ?_; clear hS; intro aa hS
  refine sB (Bcall hS rfl Try.call15 (modulo_ok hR (by omega)) (by decide) ?_); clear hS; intro aa ww vv hS hp
  clear hR
  obtain ⟨rfl, hR⟩ := hp
  refine sA hS hR (Yld.assign hS rfl) (by decide) ?_; clear hS; intro aa hS
  refine wpList_nil ?_
  refine hK213 _ _ ?_
  refine wp_seq_k ?_; intro K214 hK214
  refine wp_region_lit ?_
  refine sA hS hR (Yld.move hS rfl) (by decide) ?_; clear hS; intro aa hS
  refine sA hS hR (Yld.fieldAddr hS rfl 2 Try.underlying23 rfl rfl info3 (by decide)) (by decide) ?_; clear hS; intro aa hS
  refine sA hS hR (Yld.load1 hS rfl Try.underlying3 rfl (Rd.blk (by repeat (first | with_reducible exact Pk.here | with_reducible apply Pk.there)) (by rfl))) (by decide) ?_; clear hS; intro aa hS
  try (have e1 := emod_bd (n := u) (d := b + 1) (by omega))
  refine sA hS hR ((by first | exact Yld.add64 hS rfl rfl (by omega) | exact Yld.add hS rfl rfl)) (by decide) ?_; clear hS; intro aa hS
  refine sA hS hR (Yld.move hS rfl) (by decide) ?_; clear hS; intro aa hS
  try (have e1 := emod_bd (n := u) (d := b + 1) (by omega))
  refine sA hS hR ((by first | exact Yld.sub64 hS rfl rfl (by omega) | exact Yld.sub hS rfl rfl)) (by decide) ?_; clear hS; intro aa hS
  refine sB (Bcall hS rfl Try.call15 (modulo_ok hR (by omega)) (by decide) ?_); clear hS; intro aa ww vv hS hp
  clear hR
  obtain ⟨rfl, hR⟩ := hp
  refine sA hS hR (Yld.assign hS rfl) (by decide) ?_; clear hS; intro aa hS
  refine wpList_nil ?_
  refine hK214 _ _ ?_
  refine wp_seq_k ?_; intro K215 hK215
  refine wp_region_lit ?_
  refine sA hS hR (Yld.loadAgg hS rfl Try.underlying23 rfl info23 (Rds.cons (Rd.blk (by repeat (first | with_reducible exact Pk.here | with_reducible apply Pk.there)) (by rfl)) (Rds.cons (Rd.blk (by repeat (first | with_reducible exact Pk.here | with_reducible apply Pk.there)) (by rfl)) (Rds.cons (Rd.blk (by repeat (first | with_reducible exact Pk.here | with_reducible apply Pk.there)) (by rfl)) (Rds.nil)))) (by rfl)) (by decide) ?_; clear hS; intro aa hS
  refine sA hS hR (Yld.loadAgg hS rfl Try.underlying25 rfl info25 (Rds.cons (Rd.blk (by repeat (first | with_reducible exact Pk.here | with_reducible apply Pk.there)) (by rfl)) (Rds.cons (Rd.blk (by repeat (first | with_reducible exact Pk.here | with_reducible apply Pk.there)) (by rfl)) (Rds.nil))) (by rfl)) (by decide) ?_; clear hS; intro aa hS
  refine sA hS hR (Yld.move hS rfl) (by decide) ?_; clear hS; intro aa hS
  refine sB (Bcall hS rfl Try.call21 (Fill_ok hR) (by decide) ?_); clear hS; intro aa ww vv hS hp
  clear hR
  obtain ⟨rfl, hR⟩ := hp
  have hT : RT t p b lv at_ (at_ + z % 1048576) := ⟨hM.rb hL (by omega), by omega, by omega⟩
  have e1 := emod_bd (n := u) (d := b + 1) (by omega)
  have e2 := emod_bd (n := y2) (d := b + 1 - u % (b + 1)) (by omega)
  have hlb := lvl_bd hT
  have hnp := hT.np e1.1 (show u % (b + 1) ≤ b by omega)
  have hnq := hT.np e2.1 (show y2 % (b + 1 - u % (b + 1)) ≤ b by omega)
  rw [fillF_pos hT] at hS; dsimp only at hS
  refine sA hS hR (Yld.move hS rfl) (by decide) ?_; clear hS; intro aa hS
  refine sA hS hR (Yld.extract hS rfl rfl) (by decide) ?_; clear hS; intro aa hS
  refine sA hS hR (Yld.extract hS rfl rfl) (by decide) ?_; clear hS; intro aa hS
  refine sB (Balloc hS hR info25 (by rfl) (by rfl) (by decide) ?_); clear hS hR; intro aa ww bb16 hS hR
  refine sB (Bstore hS hR rfl rfl (by rfl) info25 (by rfl) (by repeat (first | with_reducible exact Pk.here | with_reducible apply Pk.there)) (by rfl) (Nat.le_of_ble_eq_true rfl) ?_); clear hR; intro ww hR
  refine sA hS hR (Yld.assign hS rfl) (by decide) ?_; clear hS; intro aa hS
  refine wpList_nil ?_
  refine hK215 _ _ ?_
  refine wp_seq_k ?_; intro K216 hK216
  refine wp_region_lit ?_
  refine sA hS hR (Yld.loadAgg hS rfl Try.underlying23 rfl info23 (Rds.cons (Rd.blk (by repeat (first | with_reducible exact Pk.here | with_reducible apply Pk.there)) (by rfl)) (Rds.cons (Rd.blk (by repeat (first | with_reducible exact Pk.here | with_reducible apply Pk.there)) (by rfl)) (Rds.cons (Rd.blk (by repeat (first | with_reducible exact Pk.here | with_reducible apply Pk.there)) (by rfl)) (Rds.nil)))) (by rfl)) (by decide) ?_; clear hS; intro aa hS
  refine sA hS hR (Yld.loadAgg hS rfl Try.underlying25 rfl info25 (Rds.cons (Rd.blk (by repeat (first | with_reducible exact Pk.here | with_reducible apply Pk.there)) (by rfl)) (Rds.cons (Rd.blk (by repeat (first | with_reducible exact Pk.here | with_reducible apply Pk.there)) (by rfl)) (Rds.nil))) (by rfl)) (by decide) ?_; clear hS; intro aa hS
  refine sA hS hR (Yld.move hS rfl) (by decide) ?_; clear hS; intro aa hS
  refine sB (Bcall hS rfl Try.call17 (Take_ok hR) (by decide) ?_); clear hS; intro aa ww vv hS hp
  clear hR
  obtain ⟨rfl, hR⟩ := hp
  have h0 := takeF_ok (n := 0) hT (by omega) (by omega) (by omega)
  rw [Int.zero_mul, Int.sub_zero] at h0
  rw [h0] at hS; dsimp only at hS
  refine sA hS hR (Yld.move hS rfl) (by decide) ?_; clear hS; intro aa hS
  refine sA hS hR (Yld.extract hS rfl rfl) (by decide) ?_; clear hS; intro aa hS
  refine sA hS hR (Yld.extract hS rfl rfl) (by decide) ?_; clear hS; intro aa hS
  refine sB (Balloc hS hR info25 (by rfl) (by rfl) (by decide) ?_); clear hS hR; intro aa ww bb18 hS hR
  refine sB (Bstore hS hR rfl rfl (by rfl) info25 (by rfl) (by repeat (first | with_reducible exact Pk.here | with_reducible apply Pk.there)) (by rfl) (Nat.le_of_ble_eq_true rfl) ?_); clear hR; intro ww hR
  refine sA hS hR (Yld.assign hS rfl) (by decide) ?_; clear hS; intro aa hS
  refine wpList_nil ?_
  refine hK216 _ _ ?_
  refine wp_seq_k ?_; intro K217 hK217
  refine wp_region_lit ?_
  refine sA hS hR (Yld.loadAgg hS rfl Try.underlying23 rfl info23 (Rds.cons (Rd.blk (by repeat (first | with_reducible exact Pk.here | with_reducible apply Pk.there)) (by rfl)) (Rds.cons (Rd.blk (by repeat (first | with_reducible exact Pk.here | with_reducible apply Pk.there)) (by rfl)) (Rds.cons (Rd.blk (by repeat (first | with_reducible exact Pk.here | with_reducible apply Pk.there)) (by rfl)) (Rds.nil)))) (by rfl)) (by decide) ?_; clear hS; intro aa hS
  refine sA hS hR (Yld.loadAgg hS rfl Try.underlying25 rfl info25 (Rds.cons (Rd.blk (by repeat (first | with_reducible exact Pk.here | with_reducible apply Pk.there)) (by rfl)) (Rds.cons (Rd.blk (by repeat (first | with_reducible exact Pk.here | with_reducible apply Pk.there)) (by rfl)) (Rds.nil))) (by rfl)) (by decide) ?_; clear hS; intro aa hS
  refine sA hS hR (Yld.move hS rfl) (by decide) ?_; clear hS; intro aa hS
  refine sA hS hR (Yld.move hS rfl) (by decide) ?_; clear hS; intro aa hS
  refine sA hS hR (Yld.move hS rfl) (by decide) ?_; clear hS; intro aa hS
  refine sA hS hR ((by first | exact Yld.add64 hS rfl rfl (by omega) | exact Yld.add hS rfl rfl)) (by decide) ?_; clear hS; intro aa hS
  refine sB (Bcall hS rfl Try.call17 (Take_ok hR) (by decide) ?_); clear hS; intro aa ww vv hS hp
  clear hR
  obtain ⟨rfl, hR⟩ := hp
  refine sA hS hR (Yld.move hS rfl) (by decide) ?_; clear hS; intro aa hS
  refine sA hS hR (Yld.extract hS rfl rfl) (by decide) ?_; clear hS; intro aa hS
  refine sA hS hR (Yld.extract hS rfl rfl) (by decide) ?_; clear hS; intro aa hS
  refine sB (Balloc hS hR info25 (by rfl) (by rfl) (by decide) ?_); clear hS hR; intro aa ww bb20 hS hR
  refine sB (Bstore hS hR rfl rfl (by rfl) info25 (by rfl) (by repeat (first | with_reducible exact Pk.here | with_reducible apply Pk.there)) (by rfl) (Nat.le_of_ble_eq_true rfl) ?_); clear hR; intro ww hR
  refine sA hS hR (Yld.assign hS rfl) (by decide) ?_; clear hS; intro aa hS
  refine wpList_nil ?_
  refine hK217 _ _ ?_
  refine wp_seq_k ?_; intro K218 hK218
  refine wp_seq_k ?_; intro K219 hK219
  refine wp_region_lit ?_
  refine sA hS hR (Yld.move hS rfl) (by decide) ?_; clear hS; intro aa hS
  refine sA hS hR (Yld.move hS rfl) (by decide) ?_; clear hS; intro aa hS
  refine sA hS hR ((by first | exact Yld.add64 hS rfl rfl (by omega) | exact Yld.add hS rfl rfl)) (by decide) ?_; clear hS; intro aa hS
  refine sA hS hR (Yld.neq hS rfl rfl) (by decide) ?_; clear hS; intro aa hS
  replace hS := hS.sayB (t := 78) false rfl (by simp)
  refine sA hS hR (Yld.move hS rfl) (by decide) ?_; clear hS; intro aa hS
  refine sAg hS hR rfl rfl (Yld.loadAgg hS rfl Try.underlying25 rfl info25 (Rds.cons (Rd.blk (by repeat (first | with_reducible exact Pk.here | with_reducible apply Pk.there)) (by rfl)) (Rds.cons (Rd.blk (by repeat (first | with_reducible exact Pk.here | with_reducible apply Pk.there)) (by rfl)) (Rds.nil))) (by rfl)) (by decide) ?_; clear hS; intro aa hS
  refine sAg hS hR rfl rfl (Yld.loadAgg hS rfl Try.underlying25 rfl info25 (Rds.cons (Rd.blk (by repeat (first | with_reducible exact Pk.here | with_reducible apply Pk.there)) (by rfl)) (Rds.cons (Rd.blk (by repeat (first | with_reducible exact Pk.here | with_reducible apply Pk.there)) (by rfl)) (Rds.nil))) (by rfl)) (by decide) ?_; clear hS; intro aa hS
  refine sAg hS hR rfl rfl (Yld.binRun hS rfl rfl (neq25 _ _ _ _ _ _)) (by decide) ?_; clear hS; intro aa hS
  replace hS := hS.sayB (t := 82) false rfl (by simp)
  refine sA hS hR (Yld.pickF hS rfl rfl) (by decide) ?_; clear hS; intro aa hS
  refine wpList_nil ?_
  refine hK219 _ _ ?_
  refine condF hS rfl ?_
  refine wp_skip ?_
  refine hK218 _ _ ?_
  refine wp_seq_k ?_; intro K220 hK220
  refine wp_region_lit ?_
  refine sA hS hR (Yld.loadAgg hS rfl Try.underlying23 rfl info23 (Rds.cons (Rd.blk (by repeat (first | with_reducible exact Pk.here | with_reducible apply Pk.there)) (by rfl)) (Rds.cons (Rd.blk (by repeat (first | with_reducible exact Pk.here | with_reducible apply Pk.there)) (by rfl)) (Rds.cons (Rd.blk (by repeat (first | with_reducible exact Pk.here | with_reducible apply Pk.there)) (by rfl)) (Rds.nil)))) (by rfl)) (by decide) ?_; clear hS; intro aa hS
  refine sA hS hR (Yld.loadAgg hS rfl Try.underlying25 rfl info25 (Rds.cons (Rd.blk (by repeat (first | with_reducible exact Pk.here | with_reducible apply Pk.there)) (by rfl)) (Rds.cons (Rd.blk (by repeat (first | with_reducible exact Pk.here | with_reducible apply Pk.there)) (by rfl)) (Rds.nil))) (by rfl)) (by decide) ?_; clear hS; intro aa hS
  refine sA hS hR (Yld.move hS rfl) (by decide) ?_; clear hS; intro aa hS
  refine sA hS hR (Yld.move hS rfl) (by decide) ?_; clear hS; intro aa hS
  refine sB (Bcall hS rfl Try.call17 (Take_ok hR) (by decide) ?_); clear hS; intro aa ww vv hS hp
  clear hR
  obtain ⟨rfl, hR⟩ := hp
  refine sA hS hR (Yld.move hS rfl) (by decide) ?_; clear hS; intro aa hS
  refine sA hS hR (Yld.extract hS rfl rfl) (by decide) ?_; clear hS; intro aa hS
  refine sA hS hR (Yld.extract hS rfl rfl) (by decide) ?_; clear hS; intro aa hS
  refine sB (Balloc hS hR info25 (by rfl) (by rfl) (by decide) ?_); clear hS hR; intro aa ww bb22 hS hR
  refine sB (Bstore hS hR rfl rfl (by rfl) info25 (by rfl) (by repeat (first | with_reducible exact Pk.here | with_reducible apply Pk.there)) (by rfl) (Nat.le_of_ble_eq_true rfl) ?_); clear hR; intro ww hR
  refine sA hS hR (Yld.assign hS rfl) (by decide) ?_; clear hS; intro aa hS
  refine wpList_nil ?_
  refine hK220 _ _ ?_
  refine wp_seq_k ?_; intro K221 hK221
  refine wp_seq_k ?_; intro K222 hK222
  refine wp_region_lit ?_
  refine sA hS hR (Yld.move hS rfl) (by decide) ?_; clear hS; intro aa hS
  refine sA hS hR (Yld.neq hS rfl rfl) (by decide) ?_; clear hS; intro aa hS
  refine wpList_nil ?_
  refine hK222 _ _ ?_
  refine hS.splitB (t := 93) rfl ?_ ?_ <;> clear hS
  · intro hg hS
    have hf := take_err hT e1.1 (show u % (b + 1) ≤ b by omega) hg
    have hb := takeF_none (n := u % (b + 1) + y2 % (b + 1 - u % (b + 1))) hT (by omega) (by omega) (by rw [Int.add_mul]; omega)
    refine condT hS rfl ?_
    refine wp_seq_k ?_; intro K223 hK223
    refine wp_region_lit ?_
    refine sA hS hR (Yld.move hS rfl) (by decide) ?_; clear hS; intro aa hS
    refine sA hS hR (Yld.eql hS rfl rfl) (by decide) ?_; clear hS; intro aa hS
    replace hS := hS.sayB (t := 95) true rfl (by simp [hf.2])
    refine sA hS hR (Yld.move hS rfl) (by decide) ?_; clear hS; intro aa hS
    refine sAg hS hR rfl rfl (Yld.move hS rfl) (by decide) ?_; clear hS; intro aa hS
    refine sAg hS hR rfl rfl (Yld.eql hS rfl rfl) (by decide) ?_; clear hS; intro aa hS
    replace hS := hS.sayB (t := 98) true rfl (by simp [hb])
    refine sA hS hR (Yld.pickT hS rfl rfl) (by decide) ?_; clear hS; intro aa hS
    refine sA hS hR (Yld.move hS rfl) (by decide) ?_; clear hS; intro aa hS
    refine sAg hS hR rfl rfl (Yld.fieldAddr hS rfl 0 Try.underlying25 rfl rfl info3 (by decide)) (by decide) ?_; clear hS; intro aa hS
    refine sAg hS hR rfl rfl (Yld.load1 hS rfl Try.underlying3 rfl (Rd.blk (by repeat (first | with_reducible exact Pk.here | with_reducible apply Pk.there)) (by rfl))) (by decide) ?_; clear hS; intro aa hS
    refine sAg hS hR rfl rfl (Yld.move hS rfl) (by decide) ?_; clear hS; intro aa hS
    refine sAg hS hR rfl rfl (Yld.fieldAddr hS rfl 1 Try.underlying23 rfl rfl info3 (by decide)) (by decide) ?_; clear hS; intro aa hS
    refine sAg hS hR rfl rfl (Yld.load1 hS rfl Try.underlying3 rfl (Rd.blk (by repeat (first | with_reducible exact Pk.here | with_reducible apply Pk.there)) (by rfl))) (by decide) ?_; clear hS; intro aa hS
    refine sAg hS hR rfl rfl ((by first | exact Yld.mul64 hS rfl rfl (by omega) | exact Yld.mul hS rfl rfl)) (by decide) ?_; clear hS; intro aa hS
    refine sAg hS hR rfl rfl (Yld.lss hS rfl rfl) (by decide) ?_; clear hS; intro aa hS
    replace hS := hS.sayB (t := 107) true rfl (by simpa using hf.1)
    refine sA hS hR (Yld.pickT hS rfl rfl) (by decide) ?_; clear hS; intro aa hS
    refine sA hS hR (Yld.assign hS rfl) (by decide) ?_; clear hS; intro aa hS
    refine wpList_nil ?_
    refine hK223 _ _ ?_
    refine wp_ret ?_
    repeat (first | with_reducible refine thenR ?_ | with_reducible refine blockR ?_ | with_reducible refine scopeR ?_)
    refine ret1 (fn := Try.f8) (e := .ret) (.inl rfl) Try.results8 hS hR ⟨_, (.tmp rfl), ?_⟩
    exact ⟨rfl, (hR.sub (by repeat (first | with_reducible exact Ex.refl | with_reducible apply Ex.drop)))⟩
  · intro hg hS
    have hf := take_fine hT e1.1 (show u % (b + 1) ≤ b by omega) hg
    rw [hf.2] at hS hR; dsimp only at hS hR
    refine condF hS rfl ?_
    refine wp_skip ?_
    refine hK221 _ _ ?_
    refine wp_seq_k ?_; intro K224 hK224
    refine wp_region_lit ?_
    refine sA hS hR (Yld.loadAgg hS rfl Try.underlying23 rfl info23 (Rds.cons (Rd.blk (by repeat (first | with_reducible exact Pk.here | with_reducible apply Pk.there)) (by rfl)) (Rds.cons (Rd.blk (by repeat (first | with_reducible exact Pk.here | with_reducible apply Pk.there)) (by rfl)) (Rds.cons (Rd.blk (by repeat (first | with_reducible exact Pk.here | with_reducible apply Pk.there)) (by rfl)) (Rds.nil)))) (by rfl)) (by decide) ?_; clear hS; intro aa hS
    refine sA hS hR (Yld.loadAgg hS rfl Try.underlying25 rfl info25 (Rds.cons (Rd.blk (by repeat (first | with_reducible exact Pk.here | with_reducible apply Pk.there)) (by rfl)) (Rds.cons (Rd.blk (by repeat (first | with_reducible exact Pk.here | with_reducible apply Pk.there)) (by rfl)) (Rds.nil))) (by rfl)) (by decide) ?_; clear hS; intro aa hS
    refine sA hS hR (Yld.move hS rfl) (by decide) ?_; clear hS; intro aa hS
    refine sA hS hR (Yld.move hS rfl) (by decide) ?_; clear hS; intro aa hS
    refine sB (Bcall hS rfl Try.call17 (Take_ok hR) (by decide) ?_); clear hS; intro aa ww vv hS hp
    clear hR
    obtain ⟨rfl, hR⟩ := hp
    rw [take_two hT e1.1 (by omega) hf.1 e2.1 (by omega)] at hS
    refine sA hS hR (Yld.move hS rfl) (by decide) ?_; clear hS; intro aa hS
    refine sA hS hR (Yld.extract hS rfl rfl) (by decide) ?_; clear hS; intro aa hS
    refine sA hS hR (Yld.extract hS rfl rfl) (by decide) ?_; clear hS; intro aa hS
    refine sB (Balloc hS hR info25 (by rfl) (by rfl) (by decide) ?_); clear hS hR; intro aa ww bb24 hS hR
    refine sB (Bstore hS hR rfl rfl (by rfl) info25 (by rfl) (by repeat (first | with_reducible exact Pk.here | with_reducible apply Pk.there)) (by rfl) (Nat.le_of_ble_eq_true rfl) ?_); clear hR; intro ww hR
    refine sA hS hR (Yld.assign hS rfl) (by decide) ?_; clear hS; intro aa hS
    refine wpList_nil ?_
    refine hK224 _ _ ?_
    refine wp_seq_k ?_; intro K225 hK225
    refine wp_region_lit ?_
    refine sA hS hR (Yld.fieldAddr hS rfl 0 Try.underlying25 rfl rfl info3 (by decide)) (by decide) ?_; clear hS; intro aa hS
    refine sA hS hR (Yld.load1 hS rfl Try.underlying3 rfl (Rd.blk (by repeat (first | with_reducible exact Pk.here | with_reducible apply Pk.there)) (by rfl))) (by decide) ?_; clear hS; intro aa hS
    refine sA hS hR (Yld.fieldAddr hS rfl 0 Try.underlying25 rfl rfl info3 (by decide)) (by decide) ?_; clear hS; intro aa hS
    refine sA hS hR (Yld.load1 hS rfl Try.underlying3 rfl (Rd.blk (by repeat (first | with_reducible exact Pk.here | with_reducible apply Pk.there)) (by rfl))) (by decide) ?_; clear hS; intro aa hS
    refine sA hS hR (Yld.move hS rfl) (by decide) ?_; clear hS; intro aa hS
    refine sA hS hR (Yld.fieldAddr hS rfl 1 Try.underlying23 rfl rfl info3 (by decide)) (by decide) ?_; clear hS; intro aa hS
    refine sA hS hR (Yld.load1 hS rfl Try.underlying3 rfl (Rd.blk (by repeat (first | with_reducible exact Pk.here | with_reducible apply Pk.there)) (by rfl))) (by decide) ?_; clear hS; intro aa hS
    refine sA hS hR ((by first | exact Yld.mul64 hS rfl rfl (by omega) | exact Yld.mul hS rfl rfl)) (by decide) ?_; clear hS; intro aa hS
    refine sA hS hR ((by first | exact Yld.sub64 hS rfl rfl (by omega) | exact Yld.sub hS rfl rfl)) (by decide) ?_; clear hS; intro aa hS
    refine sA hS hR (Yld.eql hS rfl rfl) (by decide) ?_; clear hS; intro aa hS
    replace hS := hS.sayB (t := 126) true rfl (by simp)
    refine sA hS hR (Yld.move hS rfl) (by decide) ?_; clear hS; intro aa hS
    refine sAg hS hR rfl rfl (Yld.loadAgg hS rfl Try.underlying25 rfl info25 (Rds.cons (Rd.blk (by repeat (first | with_reducible exact Pk.here | with_reducible apply Pk.there)) (by rfl)) (Rds.cons (Rd.blk (by repeat (first | with_reducible exact Pk.here | with_reducible apply Pk.there)) (by rfl)) (Rds.nil))) (by rfl)) (by decide) ?_; clear hS; intro aa hS
    refine sAg hS hR rfl rfl (Yld.loadAgg hS rfl Try.underlying25 rfl info25 (Rds.cons (Rd.blk (by repeat (first | with_reducible exact Pk.here | with_reducible apply Pk.there)) (by rfl)) (Rds.cons (Rd.blk (by repeat (first | with_reducible exact Pk.here | with_reducible apply Pk.there)) (by rfl)) (Rds.nil))) (by rfl)) (by decide) ?_; clear hS; intro aa hS
    refine sAg hS hR rfl rfl (Yld.binRun hS rfl rfl (eql25 _ _ _ _ _ _)) (by decide) ?_; clear hS; intro aa hS
    replace hS := hS.sayB (t := 130) true rfl (by simp)
    refine sA hS hR (Yld.pickT hS rfl rfl) (by decide) ?_; clear hS; intro aa hS
    refine sA hS hR (Yld.move hS rfl) (by decide) ?_; clear hS; intro aa hS
    refine sAg hS hR rfl rfl (Yld.move hS rfl) (by decide) ?_; clear hS; intro aa hS
    refine sAg hS hR rfl rfl (Yld.move hS rfl) (by decide) ?_; clear hS; intro aa hS
    refine sAg hS hR rfl rfl (Yld.eql hS rfl rfl) (by decide) ?_; clear hS; intro aa hS
    replace hS := hS.sayB (t := 135) true rfl (by simp)
    refine sA hS hR (Yld.pickT hS rfl rfl) (by decide) ?_; clear hS; intro aa hS
    refine sA hS hR (Yld.move hS rfl) (by decide) ?_; clear hS; intro aa hS
    refine sAg hS hR rfl rfl (Yld.move hS rfl) (by decide) ?_; clear hS; intro aa hS
    refine sAg hS hR rfl rfl (Yld.eql hS rfl rfl) (by decide) ?_; clear hS; intro aa hS
    refine sAg hS hR rfl rfl (Yld.move hS rfl) (by decide) ?_; clear hS; intro aa hS
    refine hS.splitB (t := 140) rfl ?_ ?_ <;> clear hS
    · intro hg hS
      refine sSkip hS rfl rfl rfl (by decide) ?_; clear hS; intro aa hS
      refine sSkip hS rfl rfl rfl (by decide) ?_; clear hS; intro aa hS
      refine sSkip hS rfl rfl rfl (by decide) ?_; clear hS; intro aa hS
      refine sSkipU hS rfl rfl (by decide) ?_; clear hS; intro aa hS
      refine sSkipU hS rfl rfl (by decide) ?_; clear hS; intro aa hS
      refine sSkipU hS rfl rfl (by decide) ?_; clear hS; intro aa hS
      refine sSkipU hS rfl rfl (by decide) ?_; clear hS; intro aa hS
      refine sSkipU hS rfl rfl (by decide) ?_; clear hS; intro aa hS
      refine sSkipU hS rfl rfl (by decide) ?_; clear hS; intro aa hS
      refine sSkipU hS rfl rfl (by decide) ?_; clear hS; intro aa hS
      refine sSkip hS rfl rfl rfl (by decide) ?_; clear hS; intro aa hS
      refine sAg hS hR rfl rfl (Yld.pickT hS rfl rfl) (by decide) ?_; clear hS; intro aa hS
      refine sA hS hR (Yld.pickT hS rfl rfl) (by decide) ?_; clear hS; intro aa hS
      refine sA hS hR (Yld.assign hS rfl) (by decide) ?_; clear hS; intro aa hS
      refine wpList_nil ?_
      refine hK225 _ _ ?_
      refine wp_ret ?_
      repeat (first | with_reducible refine thenR ?_ | with_reducible refine blockR ?_ | with_reducible refine scopeR ?_)
      refine ret1 (fn := Try.f8) (e := .ret) (.inl rfl) Try.results8 hS hR ⟨_, (.tmp rfl), ?_⟩
      exact ⟨rfl, (hR.sub (by repeat (first | with_reducible exact Ex.refl | with_reducible apply Ex.drop)))⟩
    · intro hg hS
      have hn := take_err hT (k := u % (b + 1) + y2 % (b + 1 - u % (b + 1))) (by omega) (by omega) hg
      refine sAg hS hR rfl rfl (Yld.move hS rfl) (by decide) ?_; clear hS; intro aa hS
      refine sAg hS hR rfl rfl (Yld.eql hS rfl rfl) (by decide) ?_; clear hS; intro aa hS
      replace hS := hS.sayB (t := 142) true rfl (by simp [hn.2])
      refine sAg hS hR rfl rfl (Yld.move hS rfl) (by decide) ?_; clear hS; intro aa hS
      refine sAg hS hR rfl rfl (Yld.fieldAddr hS rfl 0 Try.underlying25 rfl rfl info3 (by decide)) (by decide) ?_; clear hS; intro aa hS
      refine sAg hS hR rfl rfl (Yld.load1 hS rfl Try.underlying3 rfl (Rd.blk (by repeat (first | with_reducible exact Pk.here | with_reducible apply Pk.there)) (by rfl))) (by decide) ?_; clear hS; intro aa hS
      refine sAg hS hR rfl rfl (Yld.move hS rfl) (by decide) ?_; clear hS; intro aa hS
      refine sAg hS hR rfl rfl (Yld.fieldAddr hS rfl 1 Try.underlying23 rfl rfl info3 (by decide)) (by decide) ?_; clear hS; intro aa hS
      refine sAg hS hR rfl rfl (Yld.load1 hS rfl Try.underlying3 rfl (Rd.blk (by repeat (first | with_reducible exact Pk.here | with_reducible apply Pk.there)) (by rfl))) (by decide) ?_; clear hS; intro aa hS
      refine sAg hS hR rfl rfl ((by first | exact Yld.mul64 hS rfl rfl (by omega) | exact Yld.mul hS rfl rfl)) (by decide) ?_; clear hS; intro aa hS
      refine sAg hS hR rfl rfl (Yld.lss hS rfl rfl) (by decide) ?_; clear hS; intro aa hS
      replace hS := hS.sayB (t := 150) true rfl (by simp only [decide_eq_true_eq]; have := hn.1; rw [Int.add_mul] at this; omega)
      refine sAg hS hR rfl rfl (Yld.pickT hS rfl rfl) (by decide) ?_; clear hS; intro aa hS
      refine sAg hS hR rfl rfl (Yld.pickF hS rfl rfl) (by decide) ?_; clear hS; intro aa hS
      refine sA hS hR (Yld.pickT hS rfl rfl) (by decide) ?_; clear hS; intro aa hS
      refine sA hS hR (Yld.assign hS rfl) (by decide) ?_; clear hS; intro aa hS
      refine wpList_nil ?_
      refine hK225 _ _ ?_
      refine wp_ret ?_
      repeat (first | with_reducible refine thenR ?_ | with_reducible refine blockR ?_ | with_reducible refine scopeR ?_)
      refine ret1 (fn := Try.f8) (e := .ret) (.inl rfl) Try.results8 hS hR ⟨_, (.tmp rfl), ?_⟩
      exact ⟨rfl, (hR.sub (by repeat (first | with_reducible exact Ex.refl | with_reducible apply Ex.drop)))⟩
end Go.Proofs.Ytioacnbpnnabaaa.Sx
