/-
  
-/
import Derived.Test.YtmlebadfedleoaaArB
import Derived.Test.YtmlebadfedleoaaAuto
namespace Go.Proofs.Ytmlebadfedleoaa.Sx
open Go
set_option linter.unusedVariables false
set_option linter.unusedSimpArgs false



/-- No arena, or one without slots. -/
def NoA (l : List HP) (q : Option Addr) : Prop := q = none ∨ ∃ b, q = some ⟨b, 0, none⟩ ∧ Rd l b 0 (.slice none 0 0)
theorem NoA.up {l : List HP} {q : Option Addr} {X : HP} (h : NoA l q) : NoA (X :: l) q := by
  rcases h with h | ⟨b, h1, h2⟩
  · exact .inl h
  · exact .inr ⟨b, h1, fun w hw => h2 w hw.drop⟩
set_option maxRecDepth 20000 in
theorem some_nil {l : List HP} {w : World} (hR : Sep l w) : CallR Try.prog 24 [.pointer none] w (fun v w' => v = .bool false ∧ Sep l w') := by
  refine enter Try.func24 rfl Try.ntmps24 (Nat.le_of_ble_eq_true rfl) ?_; intro aa hS
  refine wp_seq_k ?_; intro K199 hK199
  refine wp_region_lit ?_
  refine sA hS hR (Yld.assign hS rfl) (by decide) ?_; clear hS; intro aa hS
  refine wpList_nil ?_
  refine hK199 _ _ ?_
  refine wp_seq_k ?_; intro K200 hK200
  refine wp_region_lit ?_
  refine sA hS hR (Yld.move hS rfl) (by decide) ?_; clear hS; intro aa hS
  refine sA hS hR (Yld.neqNil hS rfl rfl Try.underlying23) (by decide) ?_; clear hS; intro aa hS
  replace hS := hS.sayB (t := 4) false rfl (by rfl)
  refine sA hS hR (Yld.move hS rfl) (by decide) ?_; clear hS; intro aa hS
  refine sSkip hS rfl rfl rfl (by decide) ?_; clear hS; intro aa hS
  refine sSkip hS rfl rfl rfl (by decide) ?_; clear hS; intro aa hS
  refine sSkip hS rfl rfl rfl (by decide) ?_; clear hS; intro aa hS
  refine sSkip hS rfl rfl rfl (by decide) ?_; clear hS; intro aa hS
  refine sSkip hS rfl rfl rfl (by decide) ?_; clear hS; intro aa hS
  refine sSkip hS rfl rfl rfl (by decide) ?_; clear hS; intro aa hS
  refine sA hS hR (Yld.pickF hS rfl rfl) (by decide) ?_; clear hS; intro aa hS
  refine sA hS hR (Yld.assign hS rfl) (by decide) ?_; clear hS; intro aa hS
  refine wpList_nil ?_
  refine hK200 _ _ ?_
  refine wp_ret ?_
  repeat (first | with_reducible refine thenR ?_ | with_reducible refine blockR ?_ | with_reducible refine scopeR ?_)
  refine ret1 (fn := Try.f24) (e := .ret) (.inl rfl) Try.results24 hS hR ⟨_, (.tmp rfl), ?_⟩
  exact ⟨rfl, (hR.sub (by repeat (first | with_reducible exact Ex.refl | with_reducible apply Ex.drop)))⟩
set_option maxRecDepth 20000 in
theorem some_zero {l : List HP} {w : World} {b : Nat} (hR : Sep l w) (hb : Rd l b 0 (.slice none 0 0)) : CallR Try.prog 24 [.pointer (some ⟨b, 0, none⟩)] w (fun v w' => v = .bool false ∧ Sep l w') := by
  refine enter Try.func24 rfl Try.ntmps24 (Nat.le_of_ble_eq_true rfl) ?_; intro aa hS
  refine wp_seq_k ?_; intro K201 hK201
  refine wp_region_lit ?_
  refine sA hS hR (Yld.assign hS rfl) (by decide) ?_; clear hS; intro aa hS
  refine wpList_nil ?_
  refine hK201 _ _ ?_
  refine wp_seq_k ?_; intro K202 hK202
  refine wp_region_lit ?_
  refine sA hS hR (Yld.move hS rfl) (by decide) ?_; clear hS; intro aa hS
  refine sA hS hR (Yld.neqNil hS rfl rfl Try.underlying23) (by decide) ?_; clear hS; intro aa hS
  replace hS := hS.sayB (t := 4) true rfl (by rfl)
  refine sA hS hR (Yld.move hS rfl) (by decide) ?_; clear hS; intro aa hS
  refine sAg hS hR rfl rfl (Yld.move hS rfl) (by decide) ?_; clear hS; intro aa hS
  refine sAg hS hR rfl rfl (Yld.nilCheck hS rfl) (by decide) ?_; clear hS; intro aa hS
  refine sAg hS hR rfl rfl (Yld.fieldAddr hS rfl 0 Try.underlying57 rfl rfl info55 (by decide)) (by decide) ?_; clear hS; intro aa hS
  refine sAg hS hR rfl rfl (Yld.load1 hS rfl Try.underlying55 rfl hb) (by decide) ?_; clear hS; intro aa hS
  refine sAg hS hR rfl rfl (Yld.len hS rfl Try.underlying55) (by decide) ?_; clear hS; intro aa hS
  refine sAg hS hR rfl rfl (Yld.gtr hS rfl rfl) (by decide) ?_; clear hS; intro aa hS
  replace hS := hS.sayB (t := 11) false rfl (by rfl)
  refine sA hS hR (Yld.pickT hS rfl rfl) (by decide) ?_; clear hS; intro aa hS
  refine sA hS hR (Yld.assign hS rfl) (by decide) ?_; clear hS; intro aa hS
  refine wpList_nil ?_
  refine hK202 _ _ ?_
  refine wp_ret ?_
  repeat (first | with_reducible refine thenR ?_ | with_reducible refine blockR ?_ | with_reducible refine scopeR ?_)
  refine ret1 (fn := Try.f24) (e := .ret) (.inl rfl) Try.results24 hS hR ⟨_, (.tmp rfl), ?_⟩
  exact ⟨rfl, (hR.sub (by repeat (first | with_reducible exact Ex.refl | with_reducible apply Ex.drop)))⟩
theorem some_no {l : List HP} {w : World} {q : Option Addr} (hq : NoA l q) (hR : Sep l w) : CallR Try.prog 24 [.pointer q] w (fun v w' => v = .bool false ∧ Sep l w') := by
  rcases hq with rfl | ⟨b, rfl, hb⟩
  · exact some_nil hR
  · exact some_zero hR hb
set_option maxRecDepth 20000 in
theorem Take_no {q : Option Addr} {l : List HP} {w : World} (hq : NoA l q) (hR : Sep l w) : CallR Try.prog 10 [.pointer q] w (fun v w' => v = .tuple [.agg [.int .i64 0, .int .i64 0].toArray, .int .i64 1].toArray ∧ Sep l w') := by
  refine enter Try.func10 rfl Try.ntmps10 (Nat.le_of_ble_eq_true rfl) ?_; intro aa hS
  refine wp_seq_k ?_; intro K203 hK203
  refine wp_region_lit ?_
  refine sB (Balloc hS hR info29 (by rfl) (by rfl) (by decide) ?_); clear hS hR; intro aa ww bb2 hS hR
  refine sA hS hR (Yld.assign hS rfl) (by decide) ?_; clear hS; intro aa hS
  refine wpList_nil ?_
  refine hK203 _ _ ?_
  refine wp_seq_k ?_; intro K204 hK204
  refine wp_block ?_
  refine wp_seq_k ?_; intro K205 hK205
  refine wp_region_lit ?_
  refine sA hS hR (Yld.move hS rfl) (by decide) ?_; clear hS; intro aa hS
  refine sB (Bcall hS rfl Try.call24 (some_no (by repeat (first | assumption | apply NoA.up)) hR) (by decide) ?_); clear hS; intro aa ww vv hS hp
  clear hR
  obtain ⟨rfl, hR⟩ := hp
  refine sA hS hR (Yld.not hS rfl) (by decide) ?_; clear hS; intro aa hS
  refine sA hS hR (Yld.assign hS rfl) (by decide) ?_; clear hS; intro aa hS
  refine wpList_nil ?_
  refine hK205 _ _ ?_
  refine condT hS rfl ?_
  refine wp_seq_k ?_; intro K206 hK206
  refine wp_region_lit ?_
  refine sA hS hR (Yld.build hS rfl (bld29_)) (by decide) ?_; clear hS; intro aa hS
  refine sB (Bstore hS hR rfl rfl (by rfl) info29 (by rfl) (by repeat (first | with_reducible exact Pk.here | with_reducible apply Pk.there)) (by rfl) (Nat.le_of_ble_eq_true rfl) ?_); clear hR; intro ww hR
  refine sA hS hR (Yld.assign hS rfl) (by decide) ?_; clear hS; intro aa hS
  refine wpList_nil ?_
  refine hK206 _ _ ?_
  refine wp_ret ?_
  repeat (first | with_reducible refine thenR ?_ | with_reducible refine blockR ?_ | with_reducible refine scopeR ?_)
  refine retN (fn := Try.f10) (e := .ret) (.inl rfl) Try.results10 hS hR ⟨_, .cons (.agg rfl Try.underlying29 rfl info29 (Rds.cons (Rd.blk (by repeat (first | with_reducible exact Pk.here | with_reducible apply Pk.there)) (by rfl)) (Rds.cons (Rd.blk (by repeat (first | with_reducible exact Pk.here | with_reducible apply Pk.there)) (by rfl)) (Rds.nil))) (by rfl)) (.cons (.tmp rfl) (.nil)), rfl, ?_⟩
  exact ⟨rfl, (hR.sub (by repeat (first | with_reducible exact Ex.refl | with_reducible apply Ex.drop)))⟩
set_option maxRecDepth 20000 in
theorem At_no {q : Option Addr} {s : Int} {l : List HP} {w : World} (hq : NoA l q) (hR : Sep l w) : CallR Try.prog 16 [.pointer q, .int .i64 s] w (fun v w' => v = .tuple [.agg [.int .i64 0, .int .i64 0].toArray, .bool false].toArray ∧ Sep l w') := by
  refine enter Try.func16 rfl Try.ntmps16 (Nat.le_of_ble_eq_true rfl) ?_; intro aa hS
  refine wp_seq_k ?_; intro K207 hK207
  refine wp_region_lit ?_
  refine sB (Balloc hS hR info29 (by rfl) (by rfl) (by decide) ?_); clear hS hR; intro aa ww bb4 hS hR
  refine sA hS hR (Yld.assign hS rfl) (by decide) ?_; clear hS; intro aa hS
  refine wpList_nil ?_
  refine hK207 _ _ ?_
  refine wp_seq_k ?_; intro K208 hK208
  refine wp_seq_k ?_; intro K209 hK209
  refine wp_region_lit ?_
  refine sA hS hR (Yld.move hS rfl) (by decide) ?_; clear hS; intro aa hS
  refine sB (Bcall hS rfl Try.call24 (some_no (by repeat (first | assumption | apply NoA.up)) hR) (by decide) ?_); clear hS; intro aa ww vv hS hp
  clear hR
  obtain ⟨rfl, hR⟩ := hp
  refine sA hS hR (Yld.not hS rfl) (by decide) ?_; clear hS; intro aa hS
  refine sA hS hR (Yld.move hS rfl) (by decide) ?_; clear hS; intro aa hS
  refine sSkip hS rfl rfl rfl (by decide) ?_; clear hS; intro aa hS
  refine sSkip hS rfl rfl rfl (by decide) ?_; clear hS; intro aa hS
  refine sA hS hR (Yld.pickT hS rfl rfl) (by decide) ?_; clear hS; intro aa hS
  refine sA hS hR (Yld.move hS rfl) (by decide) ?_; clear hS; intro aa hS
  refine sSkip hS rfl rfl rfl (by decide) ?_; clear hS; intro aa hS
  refine sSkip hS rfl rfl rfl (by decide) ?_; clear hS; intro aa hS
  refine sSkip hS rfl rfl rfl (by decide) ?_; clear hS; intro aa hS
  refine sSkip hS rfl rfl rfl (by decide) ?_; clear hS; intro aa hS
  refine sSkip hS rfl rfl rfl (by decide) ?_; clear hS; intro aa hS
  refine sSkip hS rfl rfl rfl (by decide) ?_; clear hS; intro aa hS
  refine sSkip hS rfl rfl rfl (by decide) ?_; clear hS; intro aa hS
  refine sA hS hR (Yld.pickT hS rfl rfl) (by decide) ?_; clear hS; intro aa hS
  refine sA hS hR (Yld.move hS rfl) (by decide) ?_; clear hS; intro aa hS
  refine sSkip hS rfl rfl rfl (by decide) ?_; clear hS; intro aa hS
  refine sSkip hS rfl rfl rfl (by decide) ?_; clear hS; intro aa hS
  refine sSkip hS rfl rfl rfl (by decide) ?_; clear hS; intro aa hS
  refine sSkip hS rfl rfl rfl (by decide) ?_; clear hS; intro aa hS
  refine sSkip hS rfl rfl rfl (by decide) ?_; clear hS; intro aa hS
  refine sSkip hS rfl rfl rfl (by decide) ?_; clear hS; intro aa hS
  refine sSkip hS rfl rfl rfl (by decide) ?_; clear hS; intro aa hS
  refine sSkip hS rfl rfl rfl (by decide) ?_; clear hS; intro aa hS
  refine sSkip hS rfl rfl rfl (by decide) ?_; clear hS; intro aa hS
  refine sA hS hR (Yld.pickT hS rfl rfl) (by decide) ?_; clear hS; intro aa hS
  refine wpList_nil ?_
  refine hK209 _ _ ?_
  refine condT hS rfl ?_
  refine wp_seq_k ?_; intro K210 hK210
  refine wp_region_lit ?_
  refine sA hS hR (Yld.build hS rfl (bld29_)) (by decide) ?_; clear hS; intro aa hS
  refine sB (Bstore hS hR rfl rfl (by rfl) info29 (by rfl) (by repeat (first | with_reducible exact Pk.here | with_reducible apply Pk.there)) (by rfl) (Nat.le_of_ble_eq_true rfl) ?_); clear hR; intro ww hR
  refine sA hS hR (Yld.assign hS rfl) (by decide) ?_; clear hS; intro aa hS
  refine wpList_nil ?_
  refine hK210 _ _ ?_
  refine wp_ret ?_
  repeat (first | with_reducible refine thenR ?_ | with_reducible refine blockR ?_ | with_reducible refine scopeR ?_)
  refine retN (fn := Try.f16) (e := .ret) (.inl rfl) Try.results16 hS hR ⟨_, .cons (.agg rfl Try.underlying29 rfl info29 (Rds.cons (Rd.blk (by repeat (first | with_reducible exact Pk.here | with_reducible apply Pk.there)) (by rfl)) (Rds.cons (Rd.blk (by repeat (first | with_reducible exact Pk.here | with_reducible apply Pk.there)) (by rfl)) (Rds.nil))) (by rfl)) (.cons (.tmp rfl) (.nil)), rfl, ?_⟩
  exact ⟨rfl, (hR.sub (by repeat (first | with_reducible exact Ex.refl | with_reducible apply Ex.drop)))⟩
set_option maxRecDepth 20000 in
theorem Live_no {q : Option Addr} {s u : Int} {l : List HP} {w : World} (hq : NoA l q) (hR : Sep l w) : CallR Try.prog 13 [.pointer q, .agg [.int .i64 s, .int .i64 u].toArray] w (fun v w' => v = .bool false ∧ Sep l w') := by
  refine enter Try.func13 rfl Try.ntmps13 (Nat.le_of_ble_eq_true rfl) ?_; intro aa hS
  refine wp_seq_k ?_; intro K211 hK211
  refine wp_region_lit ?_
  refine sB (Bbox hS hR rfl (by rfl) (by decide) ?_); clear hS hR; intro aa ww bb3 hS hR
  refine sA hS hR (Yld.assign hS rfl) (by decide) ?_; clear hS; intro aa hS
  refine wpList_nil ?_
  refine hK211 _ _ ?_
  refine wp_seq_k ?_; intro K212 hK212
  refine wp_region_lit ?_
  refine sA hS hR (Yld.move hS rfl) (by decide) ?_; clear hS; intro aa hS
  refine sA hS hR (Yld.fieldAddr hS rfl 0 Try.underlying29 rfl rfl info3 (by decide)) (by decide) ?_; clear hS; intro aa hS
  refine sA hS hR (Yld.load1 hS rfl Try.underlying3 rfl (by first | exact Rd.blk (by repeat (first | with_reducible exact Pk.here | with_reducible apply Pk.there)) (by rfl) | exact Rd.rec (by repeat (first | with_reducible exact Pk.here | with_reducible apply Pk.there)) (by intro _; rfl) (by omega) rfl | exact Rd.rec0 (by repeat (first | with_reducible exact Pk.here | with_reducible apply Pk.there)) (by intro _; rfl) (by omega) rfl | exact Rd.flatJ (by repeat (first | with_reducible exact Pk.here | with_reducible apply Pk.there)) (by intro _; rfl) (by omega) rfl | exact Rd.flat0 (by repeat (first | with_reducible exact Pk.here | with_reducible apply Pk.there)) (by intro _; rfl) (by omega) rfl)) (by decide) ?_; clear hS; intro aa hS
  refine sB (Bcall hS rfl Try.call16 (At_no (by repeat (first | assumption | apply NoA.up)) hR) (by decide) ?_); clear hS; intro aa ww vv hS hp
  clear hR
  obtain ⟨rfl, hR⟩ := hp
  refine sA hS hR (Yld.move hS rfl) (by decide) ?_; clear hS; intro aa hS
  refine sA hS hR (Yld.extract hS rfl rfl) (by decide) ?_; clear hS; intro aa hS
  refine sA hS hR (Yld.extract hS rfl rfl) (by decide) ?_; clear hS; intro aa hS
  refine sB (Balloc hS hR info29 (by rfl) (by rfl) (by decide) ?_); clear hS hR; intro aa ww bb5 hS hR
  refine sB (Bstore hS hR rfl rfl (by rfl) info29 (by rfl) (by repeat (first | with_reducible exact Pk.here | with_reducible apply Pk.there)) (by rfl) (Nat.le_of_ble_eq_true rfl) ?_); clear hR; intro ww hR
  refine sA hS hR (Yld.assign hS rfl) (by decide) ?_; clear hS; intro aa hS
  refine wpList_nil ?_
  refine hK212 _ _ ?_
  refine wp_seq_k ?_; intro K213 hK213
  refine wp_region_lit ?_
  refine sA hS hR (Yld.move hS rfl) (by decide) ?_; clear hS; intro aa hS
  refine sA hS hR (Yld.move hS rfl) (by decide) ?_; clear hS; intro aa hS
  replace hS := hS.sayB (t := 15) false rfl (by rfl)
  refine sSkip hS rfl rfl rfl (by decide) ?_; clear hS; intro aa hS
  refine sSkip hS rfl rfl rfl (by decide) ?_; clear hS; intro aa hS
  refine sSkip hS rfl rfl rfl (by decide) ?_; clear hS; intro aa hS
  refine sA hS hR (Yld.pickF hS rfl rfl) (by decide) ?_; clear hS; intro aa hS
  refine sA hS hR (Yld.assign hS rfl) (by decide) ?_; clear hS; intro aa hS
  refine wpList_nil ?_
  refine hK213 _ _ ?_
  refine wp_ret ?_
  repeat (first | with_reducible refine thenR ?_ | with_reducible refine blockR ?_ | with_reducible refine scopeR ?_)
  refine ret1 (fn := Try.f13) (e := .ret) (.inl rfl) Try.results13 hS hR ⟨_, (.tmp rfl), ?_⟩
  exact ⟨rfl, (hR.sub (by repeat (first | with_reducible exact Ex.refl | with_reducible apply Ex.drop)))⟩
set_option maxRecDepth 20000 in
theorem Give_no {q : Option Addr} {s u : Int} {l : List HP} {w : World} (hq : NoA l q) (hR : Sep l w) : CallR Try.prog 11 [.pointer q, .agg [.int .i64 s, .int .i64 u].toArray] w (fun v w' => v = .int .i64 1 ∧ Sep l w') := by
  refine enter Try.func11 rfl Try.ntmps11 (Nat.le_of_ble_eq_true rfl) ?_; intro aa hS
  refine wp_seq_k ?_; intro K214 hK214
  refine wp_region_lit ?_
  refine sB (Bbox hS hR rfl (by rfl) (by decide) ?_); clear hS hR; intro aa ww bb3 hS hR
  refine sA hS hR (Yld.assign hS rfl) (by decide) ?_; clear hS; intro aa hS
  refine wpList_nil ?_
  refine hK214 _ _ ?_
  refine wp_seq_k ?_; intro K215 hK215
  refine wp_block ?_
  refine wp_seq_k ?_; intro K216 hK216
  refine wp_region_lit ?_
  refine sA hS hR (Yld.move hS rfl) (by decide) ?_; clear hS; intro aa hS
  refine sB (Bcall hS rfl Try.call24 (some_no (by repeat (first | assumption | apply NoA.up)) hR) (by decide) ?_); clear hS; intro aa ww vv hS hp
  clear hR
  obtain ⟨rfl, hR⟩ := hp
  refine sA hS hR (Yld.not hS rfl) (by decide) ?_; clear hS; intro aa hS
  refine sA hS hR (Yld.assign hS rfl) (by decide) ?_; clear hS; intro aa hS
  refine wpList_nil ?_
  refine hK216 _ _ ?_
  refine condT hS rfl ?_
  refine wp_seq_k ?_; intro K217 hK217
  refine wp_region_lit ?_
  refine sA hS hR (Yld.assign hS rfl) (by decide) ?_; clear hS; intro aa hS
  refine wpList_nil ?_
  refine hK217 _ _ ?_
  refine wp_ret ?_
  repeat (first | with_reducible refine thenR ?_ | with_reducible refine blockR ?_ | with_reducible refine scopeR ?_)
  refine ret1 (fn := Try.f11) (e := .ret) (.inl rfl) Try.results11 hS hR ⟨_, (.tmp rfl), ?_⟩
  exact ⟨rfl, (hR.sub (by repeat (first | with_reducible exact Ex.refl | with_reducible apply Ex.drop)))⟩
set_option maxRecDepth 20000 in
theorem Size_no {q : Option Addr} {l : List HP} {w : World} (hq : NoA l q) (hR : Sep l w) : CallR Try.prog 23 [.pointer q] w (fun v w' => v = .int .i64 0 ∧ Sep l w') := by
  refine enter Try.func23 rfl Try.ntmps23 (Nat.le_of_ble_eq_true rfl) ?_; intro aa hS
  refine wp_seq_k ?_; intro K218 hK218
  refine wp_region_lit ?_
  refine sA hS hR (Yld.assign hS rfl) (by decide) ?_; clear hS; intro aa hS
  refine wpList_nil ?_
  refine hK218 _ _ ?_
  refine wp_seq_k ?_; intro K219 hK219
  refine wp_seq_k ?_; intro K220 hK220
  refine wp_region_lit ?_
  refine sA hS hR (Yld.move hS rfl) (by decide) ?_; clear hS; intro aa hS
  refine sB (Bcall hS rfl Try.call24 (some_no (by repeat (first | assumption | apply NoA.up)) hR) (by decide) ?_); clear hS; intro aa ww vv hS hp
  clear hR
  obtain ⟨rfl, hR⟩ := hp
  refine sA hS hR (Yld.not hS rfl) (by decide) ?_; clear hS; intro aa hS
  refine wpList_nil ?_
  refine hK220 _ _ ?_
  refine condT hS rfl ?_
  refine wp_seq_k ?_; intro K221 hK221
  refine wp_region_lit ?_
  refine sA hS hR (Yld.assign hS rfl) (by decide) ?_; clear hS; intro aa hS
  refine wpList_nil ?_
  refine hK221 _ _ ?_
  refine wp_ret ?_
  repeat (first | with_reducible refine thenR ?_ | with_reducible refine blockR ?_ | with_reducible refine scopeR ?_)
  refine ret1 (fn := Try.f23) (e := .ret) (.inl rfl) Try.results23 hS hR ⟨_, (.tmp rfl), ?_⟩
  exact ⟨rfl, (hR.sub (by repeat (first | with_reducible exact Ex.refl | with_reducible apply Ex.drop)))⟩
set_option maxRecDepth 20000 in
theorem Count_no {q : Option Addr} {l : List HP} {w : World} (hq : NoA l q) (hR : Sep l w) : CallR Try.prog 15 [.pointer q] w (fun v w' => v = .int .i64 0 ∧ Sep l w') := by
  refine enter Try.func15 rfl Try.ntmps15 (Nat.le_of_ble_eq_true rfl) ?_; intro aa hS
  refine wp_seq_k ?_; intro K222 hK222
  refine wp_region_lit ?_
  refine sA hS hR (Yld.assign hS rfl) (by decide) ?_; clear hS; intro aa hS
  refine wpList_nil ?_
  refine hK222 _ _ ?_
  refine wp_seq_k ?_; intro K223 hK223
  refine wp_seq_k ?_; intro K224 hK224
  refine wp_region_lit ?_
  refine sA hS hR (Yld.move hS rfl) (by decide) ?_; clear hS; intro aa hS
  refine sB (Bcall hS rfl Try.call24 (some_no (by repeat (first | assumption | apply NoA.up)) hR) (by decide) ?_); clear hS; intro aa ww vv hS hp
  clear hR
  obtain ⟨rfl, hR⟩ := hp
  refine sA hS hR (Yld.not hS rfl) (by decide) ?_; clear hS; intro aa hS
  refine wpList_nil ?_
  refine hK224 _ _ ?_
  refine condT hS rfl ?_
  refine wp_seq_k ?_; intro K225 hK225
  refine wp_region_lit ?_
  refine sA hS hR (Yld.assign hS rfl) (by decide) ?_; clear hS; intro aa hS
  refine wpList_nil ?_
  refine hK225 _ _ ?_
  refine wp_ret ?_
  repeat (first | with_reducible refine thenR ?_ | with_reducible refine blockR ?_ | with_reducible refine scopeR ?_)
  refine ret1 (fn := Try.f15) (e := .ret) (.inl rfl) Try.results15 hS hR ⟨_, (.tmp rfl), ?_⟩
  exact ⟨rfl, (hR.sub (by repeat (first | with_reducible exact Ex.refl | with_reducible apply Ex.drop)))⟩
set_option maxRecDepth 20000 in
theorem Free_no {q : Option Addr} {l : List HP} {w : World} (hq : NoA l q) (hR : Sep l w) : CallR Try.prog 14 [.pointer q] w (fun v w' => v = .slice none 0 0 ∧ Sep l w') := by
  refine enter Try.func14 rfl Try.ntmps14 (Nat.le_of_ble_eq_true rfl) ?_; intro aa hS
  refine wp_seq_k ?_; intro K226 hK226
  refine wp_region_lit ?_
  refine sB (Bbox hS hR rfl (by rfl) (by decide) ?_); clear hS hR; intro aa ww bb1 hS hR
  refine sA hS hR (Yld.assign hS rfl) (by decide) ?_; clear hS; intro aa hS
  refine wpList_nil ?_
  refine hK226 _ _ ?_
  refine wp_seq_k ?_; intro K227 hK227
  refine wp_seq_k ?_; intro K228 hK228
  refine wp_region_lit ?_
  refine sA hS hR (Yld.load1 hS rfl Try.underlying23 rfl (by first | exact Rd.blk (by repeat (first | with_reducible exact Pk.here | with_reducible apply Pk.there)) (by rfl) | exact Rd.rec (by repeat (first | with_reducible exact Pk.here | with_reducible apply Pk.there)) (by intro _; rfl) (by omega) rfl | exact Rd.rec0 (by repeat (first | with_reducible exact Pk.here | with_reducible apply Pk.there)) (by intro _; rfl) (by omega) rfl | exact Rd.flatJ (by repeat (first | with_reducible exact Pk.here | with_reducible apply Pk.there)) (by intro _; rfl) (by omega) rfl | exact Rd.flat0 (by repeat (first | with_reducible exact Pk.here | with_reducible apply Pk.there)) (by intro _; rfl) (by omega) rfl)) (by decide) ?_; clear hS; intro aa hS
  refine sB (Bcall hS rfl Try.call24 (some_no (by repeat (first | assumption | apply NoA.up)) hR) (by decide) ?_); clear hS; intro aa ww vv hS hp
  clear hR
  obtain ⟨rfl, hR⟩ := hp
  refine sA hS hR (Yld.not hS rfl) (by decide) ?_; clear hS; intro aa hS
  refine wpList_nil ?_
  refine hK228 _ _ ?_
  refine condT hS rfl ?_
  refine wp_seq_k ?_; intro K229 hK229
  refine wp_region_lit ?_
  refine sA hS hR (Yld.assign hS rfl) (by decide) ?_; clear hS; intro aa hS
  refine wpList_nil ?_
  refine hK229 _ _ ?_
  refine wp_ret ?_
  repeat (first | with_reducible refine thenR ?_ | with_reducible refine blockR ?_ | with_reducible refine scopeR ?_)
  refine ret1 (fn := Try.f14) (e := .ret) (.inl rfl) Try.results14 hS hR ⟨_, (.tmp rfl), ?_⟩
  exact ⟨rfl, (hR.sub (by repeat (first | with_reducible exact Ex.refl | with_reducible apply Ex.drop)))⟩
set_option maxRecDepth 20000 in
theorem All_no {q : Option Addr} {l : List HP} {w : World} (hq : NoA l q) (hR : Sep l w) : CallR Try.prog 17 [.pointer q] w (fun v w' => v = .slice none 0 0 ∧ Sep l w') := by
  refine enter Try.func17 rfl Try.ntmps17 (Nat.le_of_ble_eq_true rfl) ?_; intro aa hS
  refine wp_seq_k ?_; intro K230 hK230
  refine wp_region_lit ?_
  refine sB (Bbox hS hR rfl (by rfl) (by decide) ?_); clear hS hR; intro aa ww bb1 hS hR
  refine sA hS hR (Yld.assign hS rfl) (by decide) ?_; clear hS; intro aa hS
  refine wpList_nil ?_
  refine hK230 _ _ ?_
  refine wp_seq_k ?_; intro K231 hK231
  refine wp_seq_k ?_; intro K232 hK232
  refine wp_region_lit ?_
  refine sA hS hR (Yld.load1 hS rfl Try.underlying23 rfl (by first | exact Rd.blk (by repeat (first | with_reducible exact Pk.here | with_reducible apply Pk.there)) (by rfl) | exact Rd.rec (by repeat (first | with_reducible exact Pk.here | with_reducible apply Pk.there)) (by intro _; rfl) (by omega) rfl | exact Rd.rec0 (by repeat (first | with_reducible exact Pk.here | with_reducible apply Pk.there)) (by intro _; rfl) (by omega) rfl | exact Rd.flatJ (by repeat (first | with_reducible exact Pk.here | with_reducible apply Pk.there)) (by intro _; rfl) (by omega) rfl | exact Rd.flat0 (by repeat (first | with_reducible exact Pk.here | with_reducible apply Pk.there)) (by intro _; rfl) (by omega) rfl)) (by decide) ?_; clear hS; intro aa hS
  refine sB (Bcall hS rfl Try.call24 (some_no (by repeat (first | assumption | apply NoA.up)) hR) (by decide) ?_); clear hS; intro aa ww vv hS hp
  clear hR
  obtain ⟨rfl, hR⟩ := hp
  refine sA hS hR (Yld.not hS rfl) (by decide) ?_; clear hS; intro aa hS
  refine wpList_nil ?_
  refine hK232 _ _ ?_
  refine condT hS rfl ?_
  refine wp_seq_k ?_; intro K233 hK233
  refine wp_region_lit ?_
  refine sA hS hR (Yld.assign hS rfl) (by decide) ?_; clear hS; intro aa hS
  refine wpList_nil ?_
  refine hK233 _ _ ?_
  refine wp_ret ?_
  repeat (first | with_reducible refine thenR ?_ | with_reducible refine blockR ?_ | with_reducible refine scopeR ?_)
  refine ret1 (fn := Try.f17) (e := .ret) (.inl rfl) Try.results17 hS hR ⟨_, (.tmp rfl), ?_⟩
  exact ⟨rfl, (hR.sub (by repeat (first | with_reducible exact Ex.refl | with_reducible apply Ex.drop)))⟩
set_option maxRecDepth 20000 in
theorem Clear_no {q : Option Addr} {l : List HP} {w : World} (hq : NoA l q) (hR : Sep l w) : CallR Try.prog 18 [.pointer q] w (fun v w' => v = .int .i64 1 ∧ Sep l w') := by
  refine enter Try.func18 rfl Try.ntmps18 (Nat.le_of_ble_eq_true rfl) ?_; intro aa hS
  refine wp_seq_k ?_; intro K234 hK234
  refine wp_region_lit ?_
  refine sA hS hR (Yld.assign hS rfl) (by decide) ?_; clear hS; intro aa hS
  refine wpList_nil ?_
  refine hK234 _ _ ?_
  refine wp_seq_k ?_; intro K235 hK235
  refine wp_seq_k ?_; intro K236 hK236
  refine wp_region_lit ?_
  refine sA hS hR (Yld.move hS rfl) (by decide) ?_; clear hS; intro aa hS
  refine sB (Bcall hS rfl Try.call24 (some_no (by repeat (first | assumption | apply NoA.up)) hR) (by decide) ?_); clear hS; intro aa ww vv hS hp
  clear hR
  obtain ⟨rfl, hR⟩ := hp
  refine sA hS hR (Yld.not hS rfl) (by decide) ?_; clear hS; intro aa hS
  refine wpList_nil ?_
  refine hK236 _ _ ?_
  refine condT hS rfl ?_
  refine wp_seq_k ?_; intro K237 hK237
  refine wp_region_lit ?_
  refine sA hS hR (Yld.assign hS rfl) (by decide) ?_; clear hS; intro aa hS
  refine wpList_nil ?_
  refine hK237 _ _ ?_
  refine wp_ret ?_
  repeat (first | with_reducible refine thenR ?_ | with_reducible refine blockR ?_ | with_reducible refine scopeR ?_)
  refine ret1 (fn := Try.f18) (e := .ret) (.inl rfl) Try.results18 hS hR ⟨_, (.tmp rfl), ?_⟩
  exact ⟨rfl, (hR.sub (by repeat (first | with_reducible exact Ex.refl | with_reducible apply Ex.drop)))⟩
end Go.Proofs.Ytmlebadfedleoaa.Sx
