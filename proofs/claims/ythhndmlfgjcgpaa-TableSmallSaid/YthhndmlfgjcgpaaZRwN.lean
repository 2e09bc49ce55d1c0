/-
 
-/
import Derived.Test.YthhndmlfgjcgpaaZTbD
namespace Go.Proofs.Ythhndmlfgjcgpaa.Sx
open Go
set_option maxRecDepth 20000
set_option linter.unusedVariables false
set_option linter.unusedSimpArgs false
theorem tbsome_nil {b : Nat} {l : List HP} {w : World} (hR : Sep (l) w) : CallR Try.prog 35 [.pointer none] w (fun v w' => v = .bool false ∧ Sep (l) w') := by
 refine enter Try.func35 rfl Try.ntmps35 (Nat.le_of_ble_eq_true rfl) ?_; intro aa hS
 refine wp_seq_k ?_; intro K1207 hK1207
 refine wp_region_lit ?_
 revert aa
 refine qN hR ?_
 intro aa hS
 refine wpList_nil ?_
 refine hK1207 _ _ ?_
 refine wp_seq_k ?_; intro K1208 hK1208
 refine wp_region_lit ?_
 revert aa
 refine qM hR ?_
 refine qA hR rfl (fun _ hS => Yld.neqNil hS rfl rfl Try.underlying23) ?_
 refine qB (t := 4) false rfl (by rfl) ?_
 refine qM hR ?_
 refine qZ ?_
 refine qZ ?_
 refine qZ ?_
 refine qZ ?_
 refine qZ ?_
 refine qA hR rfl (fun _ hS => Yld.pickF hS rfl rfl) ?_
 refine qN hR ?_
 intro aa hS
 refine wpList_nil ?_
 refine hK1208 _ _ ?_
 refine wp_ret ?_
 repeat first | with_reducible refine thenR ?_ | with_reducible refine blockR ?_ | with_reducible refine scopeR ?_
 refine ret1 (fn := Try.f35) (e := .ret) (.inl rfl) Try.results35 hS hR ⟨_, (.tmp rfl), ?_⟩
 exact ⟨rfl, (hR.sub exQ)⟩
theorem tbAdd_nil {s u i : Int} {k : Ky} {b : Nat} {l : List HP} {w : World} (hR : Sep (l) w) : CallR Try.prog 18 [.pointer none, vK k, .int .i64 i] w (fun v w' => v = .tuple [vH 0 0, .int .i64 1].toArray ∧ Sep (l) w') := by
 refine enter Try.func18 rfl Try.ntmps18 (Nat.le_of_ble_eq_true rfl) ?_; intro aa hS
 refine wp_seq_k ?_; intro K1209 hK1209
 refine wp_region_lit ?_
 refine sB (Bbox hS hR rfl (by rfl) (by decide) ?_); clear hS hR; intro aa ww bb4 hS hR
 refine sB (Balloc hS hR info29 (by rfl) (by rfl) (by decide) ?_); clear hS hR; intro aa ww bb6 hS hR
 revert aa
 refine qN hR ?_
 intro aa hS
 refine wpList_nil ?_
 refine hK1209 _ _ ?_
 refine wp_seq_k ?_; intro K1210 hK1210
 refine wp_seq_k ?_; intro K1211 hK1211
 refine wp_region_lit ?_
 revert aa
 refine qM hR ?_
 intro aa hS
 refine sB (Bcall hS rfl Try.call35 (tbsome_nil (b := b) hR) (by decide) ?_); clear hS; intro aa ww vv hS hp
 clear hR
 obtain ⟨rfl, hR⟩ := hp
 refine sA hS hR (Yld.not hS rfl) (by decide) ?_; clear hS; intro aa hS
 refine wpList_nil ?_
 refine hK1211 _ _ ?_
 refine condT hS rfl ?_
 refine wp_seq_k ?_; intro K1212 hK1212
 refine wp_region_lit ?_
 refine sA hS hR (Yld.build hS rfl (bld29_)) (by decide) ?_; clear hS; intro aa hS
 refine sB (Bstore hS hR rfl rfl (by rfl) info29 (by rfl) pkQ (by rfl) (Nat.le_of_ble_eq_true rfl) ?_); clear hR; intro ww hR
 revert aa
 refine qN hR ?_
 intro aa hS
 refine wpList_nil ?_
 refine hK1212 _ _ ?_
 refine wp_ret ?_
 repeat first | with_reducible refine thenR ?_ | with_reducible refine blockR ?_ | with_reducible refine scopeR ?_
 refine retN (fn := Try.f18) (e := .ret) (.inl rfl) Try.results18 hS hR ⟨_, .cons (.agg rfl Try.underlying29 rfl info29 (Rds.cons (Rd.blk pkQ (by rfl)) (Rds.cons (Rd.blk pkQ (by rfl)) (Rds.nil))) (by rfl)) (.cons (.tmp rfl) (.nil)), rfl, ?_⟩
 try dsimp only [lay, List.set] at hR
 exact ⟨rfl, (hR.sub exQ)⟩
theorem tbOut_nil {s u i : Int} {k : Ky} {b : Nat} {l : List HP} {w : World} (hR : Sep (l) w) : CallR Try.prog 21 [.pointer none, .agg [.int .i64 s, .int .i64 u].toArray] w (fun v w' => v = .tuple [vK k0, .int .i64 1].toArray ∧ Sep (l) w') := by
 refine enter Try.func21 rfl Try.ntmps21 (Nat.le_of_ble_eq_true rfl) ?_; intro aa hS
 refine wp_seq_k ?_; intro K1213 hK1213
 refine wp_region_lit ?_
 refine sB (Bbox hS hR rfl (by rfl) (by decide) ?_); clear hS hR; intro aa ww bb3 hS hR
 refine sB (Balloc hS hR info35 (by rfl) (by rfl) (by decide) ?_); clear hS hR; intro aa ww bb4 hS hR
 revert aa
 refine qN hR ?_
 intro aa hS
 refine wpList_nil ?_
 refine hK1213 _ _ ?_
 refine wp_seq_k ?_; intro K1214 hK1214
 refine wp_seq_k ?_; intro K1215 hK1215
 refine wp_region_lit ?_
 revert aa
 refine qM hR ?_
 intro aa hS
 refine sB (Bcall hS rfl Try.call35 (tbsome_nil (b := b) hR) (by decide) ?_); clear hS; intro aa ww vv hS hp
 clear hR
 obtain ⟨rfl, hR⟩ := hp
 refine sA hS hR (Yld.not hS rfl) (by decide) ?_; clear hS; intro aa hS
 refine wpList_nil ?_
 refine hK1215 _ _ ?_
 refine condT hS rfl ?_
 refine wp_seq_k ?_; intro K1216 hK1216
 refine wp_region_lit ?_
 refine sA hS hR (Yld.build hS rfl (bld35_)) (by decide) ?_; clear hS; intro aa hS
 refine sB (Bstore hS hR rfl rfl (by rfl) info35 (by rfl) pkQ (by rfl) (Nat.le_of_ble_eq_true rfl) ?_); clear hR; intro ww hR
 revert aa
 refine qN hR ?_
 intro aa hS
 refine wpList_nil ?_
 refine hK1216 _ _ ?_
 refine wp_ret ?_
 repeat first | with_reducible refine thenR ?_ | with_reducible refine blockR ?_ | with_reducible refine scopeR ?_
 refine retN (fn := Try.f21) (e := .ret) (.inl rfl) Try.results21 hS hR ⟨_, .cons (.agg rfl Try.underlying35 rfl info35 (Rds.cons (Rd.blk pkQ (by rfl)) (Rds.cons (Rd.blk pkQ (by rfl)) (Rds.cons (Rd.blk pkQ (by rfl)) (Rds.cons (Rd.blk pkQ (by rfl)) (Rds.cons (Rd.blk pkQ (by rfl)) (Rds.nil)))))) (by rfl)) (.cons (.tmp rfl) (.nil)), rfl, ?_⟩
 try dsimp only [lay, List.set] at hR
 exact ⟨rfl, (hR.sub exQ)⟩
theorem tbFind_nil {s u i : Int} {k : Ky} {b : Nat} {l : List HP} {w : World} (hR : Sep (l) w) : CallR Try.prog 12 [.pointer none, vK k] w (fun v w' => v = .tuple [vH 0 0, .bool false, .bool false].toArray ∧ Sep (l) w') := by
 refine enter Try.func12 rfl Try.ntmps12 (Nat.le_of_ble_eq_true rfl) ?_; intro aa hS
 refine wp_seq_k ?_; intro K1217 hK1217
 refine wp_region_lit ?_
 refine sB (Bbox hS hR rfl (by rfl) (by decide) ?_); clear hS hR; intro aa ww bb3 hS hR
 refine sB (Balloc hS hR info29 (by rfl) (by rfl) (by decide) ?_); clear hS hR; intro aa ww bb4 hS hR
 revert aa
 refine qN hR ?_
 refine qN hR ?_
 intro aa hS
 refine wpList_nil ?_
 refine hK1217 _ _ ?_
 refine wp_seq_k ?_; intro K1218 hK1218
 refine wp_seq_k ?_; intro K1219 hK1219
 refine wp_region_lit ?_
 revert aa
 refine qM hR ?_
 intro aa hS
 refine sB (Bcall hS rfl Try.call35 (tbsome_nil (b := b) hR) (by decide) ?_); clear hS; intro aa ww vv hS hp
 clear hR
 obtain ⟨rfl, hR⟩ := hp
 refine sA hS hR (Yld.not hS rfl) (by decide) ?_; clear hS; intro aa hS
 refine wpList_nil ?_
 refine hK1219 _ _ ?_
 refine condT hS rfl ?_
 refine wp_seq_k ?_; intro K1220 hK1220
 refine wp_region_lit ?_
 refine sA hS hR (Yld.build hS rfl (bld29_)) (by decide) ?_; clear hS; intro aa hS
 refine sB (Bstore hS hR rfl rfl (by rfl) info29 (by rfl) pkQ (by rfl) (Nat.le_of_ble_eq_true rfl) ?_); clear hR; intro ww hR
 revert aa
 refine qN hR ?_
 refine qN hR ?_
 intro aa hS
 refine wpList_nil ?_
 refine hK1220 _ _ ?_
 refine wp_ret ?_
 repeat first | with_reducible refine thenR ?_ | with_reducible refine blockR ?_ | with_reducible refine scopeR ?_
 refine retN (fn := Try.f12) (e := .ret) (.inl rfl) Try.results12 hS hR ⟨_, .cons (.agg rfl Try.underlying29 rfl info29 (Rds.cons (Rd.blk pkQ (by rfl)) (Rds.cons (Rd.blk pkQ (by rfl)) (Rds.nil))) (by rfl)) (.cons (.tmp rfl) (.cons (.tmp rfl) (.nil))), rfl, ?_⟩
 try dsimp only [lay, List.set] at hR
 exact ⟨rfl, (hR.sub exQ)⟩
theorem tbKey_nil {s u i : Int} {k : Ky} {b : Nat} {l : List HP} {w : World} (hR : Sep (l) w) : CallR Try.prog 22 [.pointer none, .agg [.int .i64 s, .int .i64 u].toArray] w (fun v w' => v = .tuple [vK k0, .bool false].toArray ∧ Sep (l) w') := by
 refine enter Try.func22 rfl Try.ntmps22 (Nat.le_of_ble_eq_true rfl) ?_; intro aa hS
 refine wp_seq_k ?_; intro K1221 hK1221
 refine wp_region_lit ?_
 refine sB (Bbox hS hR rfl (by rfl) (by decide) ?_); clear hS hR; intro aa ww bb3 hS hR
 refine sB (Balloc hS hR info35 (by rfl) (by rfl) (by decide) ?_); clear hS hR; intro aa ww bb4 hS hR
 revert aa
 refine qN hR ?_
 intro aa hS
 refine wpList_nil ?_
 refine hK1221 _ _ ?_
 refine wp_seq_k ?_; intro K1222 hK1222
 refine wp_seq_k ?_; intro K1223 hK1223
 refine drawn krQ hR Ex.refl ?_; clear hR; intro ww hR hR0
 revert aa
 refine eA 0 rfl krQ (fun _ _ _ h => h) hR0 rfl (fun _ hS => Yld.move hS rfl) ?_
 intro aa hS
 refine dOne (i := 1) krQ ?_
 refine dop rfl (Bcall hS rfl Try.call35 (tbsome_nil (b := b) hR) (by decide) ?_); clear hS; intro aa ww vv hS hp
 clear hR hR0
 obtain ⟨rfl, hR⟩ := hp
 refine dnext (hR.sub exQ) ?_; intro hR0
 revert aa
 refine eA 2 rfl krQ (fun _ _ _ h => h) hR0 rfl (fun _ hS => Yld.not hS rfl) ?_
 refine eA 3 rfl krQ (fun _ _ _ h => h) hR0 rfl (fun _ hS => Yld.move hS rfl) ?_
 refine eZ 4 rfl hR0 ?_
 refine eZ 5 rfl hR0 ?_
 refine eZ 6 rfl hR0 ?_
 refine eZ 7 rfl hR0 ?_
 refine eZ 8 rfl hR0 ?_
 refine eZ 9 rfl hR0 ?_
 refine eZ 10 rfl hR0 ?_
 refine eA 11 rfl krQ (fun _ _ _ h => h) hR0 rfl (fun _ hS => Yld.pickT hS rfl rfl) ?_
 intro aa hS
 refine wpAnyH_done krQ ?_ _; clear hR0
 refine hK1223 _ _ ?_
 refine condT hS rfl ?_
 refine wp_seq_k ?_; intro K1224 hK1224
 refine wp_region_lit ?_
 refine sA hS hR (Yld.build hS rfl (bld35_)) (by decide) ?_; clear hS; intro aa hS
 refine sB (Bstore hS hR rfl rfl (by rfl) info35 (by rfl) pkQ (by rfl) (Nat.le_of_ble_eq_true rfl) ?_); clear hR; intro ww hR
 revert aa
 refine qN hR ?_
 intro aa hS
 refine wpList_nil ?_
 refine hK1224 _ _ ?_
 refine wp_ret ?_
 repeat first | with_reducible refine thenR ?_ | with_reducible refine blockR ?_ | with_reducible refine scopeR ?_
 refine retN (fn := Try.f22) (e := .ret) (.inl rfl) Try.results22 hS hR ⟨_, .cons (.agg rfl Try.underlying35 rfl info35 (Rds.cons (Rd.blk pkQ (by rfl)) (Rds.cons (Rd.blk pkQ (by rfl)) (Rds.cons (Rd.blk pkQ (by rfl)) (Rds.cons (Rd.blk pkQ (by rfl)) (Rds.cons (Rd.blk pkQ (by rfl)) (Rds.nil)))))) (by rfl)) (.cons (.tmp rfl) (.nil)), rfl, ?_⟩
 try dsimp only [lay, List.set] at hR
 exact ⟨rfl, (hR.sub exQ)⟩
theorem tbList_nil {s u i : Int} {k : Ky} {b : Nat} {l : List HP} {w : World} (hR : Sep (l) w) : CallR Try.prog 13 [.pointer none, .agg [.int .i64 s, .int .i64 u].toArray] w (fun v w' => v = .tuple [.int .i64 0, .bool false].toArray ∧ Sep (l) w') := by
 refine enter Try.func13 rfl Try.ntmps13 (Nat.le_of_ble_eq_true rfl) ?_; intro aa hS
 refine wp_seq_k ?_; intro K1225 hK1225
 refine wp_region_lit ?_
 refine sB (Bbox hS hR rfl (by rfl) (by decide) ?_); clear hS hR; intro aa ww bb3 hS hR
 revert aa
 refine qN hR ?_
 refine qN hR ?_
 intro aa hS
 refine wpList_nil ?_
 refine hK1225 _ _ ?_
 refine wp_seq_k ?_; intro K1226 hK1226
 refine wp_seq_k ?_; intro K1227 hK1227
 refine wp_region_lit ?_
 revert aa
 refine qM hR ?_
 intro aa hS
 refine sA hS hR (Yld.loadAgg hS rfl Try.underlying29 rfl info29 rdsQ2 (by rfl)) (by decide) ?_; clear hS; intro aa hS
 refine sB (Bcall hS rfl Try.call22 (tbKey_nil (b := b) (s := s) (u := u) (i := 0) (k := k0) hR) (by decide) ?_); clear hS; intro aa ww vv hS hp
 clear hR
 obtain ⟨rfl, hR⟩ := hp
 revert aa
 refine qM hR ?_
 refine qX hR ?_
 refine qX hR ?_
 refine qB (t := 13) false rfl (by rfl) ?_
 intro aa hS
 refine sB (Balloc hS hR info35 (by rfl) (by rfl) (by decide) ?_); clear hS hR; intro aa ww bb6 hS hR
 refine sB (Bstore hS hR rfl rfl (by rfl) info35 (by rfl) pkQ (by rfl) (Nat.le_of_ble_eq_true rfl) ?_); clear hR; intro ww hR
 revert aa
 refine qN hR ?_
 intro aa hS
 refine wpList_nil ?_
 refine hK1227 _ _ ?_
 refine wp_seq_k ?_; intro K1228 hK1228
 refine wp_region_lit ?_
 revert aa
 refine qM hR ?_
 refine qA hR rfl (fun _ hS => Yld.not hS rfl) ?_
 intro aa hS
 refine wpList_nil ?_
 refine hK1228 _ _ ?_
 refine condT hS rfl ?_
 refine wp_seq_k ?_; intro K1229 hK1229
 refine wp_region_lit ?_
 revert aa
 refine qN hR ?_
 refine qN hR ?_
 intro aa hS
 refine wpList_nil ?_
 refine hK1229 _ _ ?_
 refine wp_ret ?_
 repeat first | with_reducible refine thenR ?_ | with_reducible refine blockR ?_ | with_reducible refine scopeR ?_
 refine retN (fn := Try.f13) (e := .ret) (.inl rfl) Try.results13 hS hR ⟨_, .cons (.tmp rfl) (.cons (.tmp rfl) (.nil)), rfl, ?_⟩
 try dsimp only [lay, List.set] at hR
 exact ⟨rfl, (hR.sub exQ)⟩
theorem tbFirst_nil {s u i : Int} {k : Ky} {b : Nat} {l : List HP} {w : World} (hR : Sep (l) w) : CallR Try.prog 24 [.pointer none, .int .i64 i] w (fun v w' => v = .tuple [vH 0 0, .bool false].toArray ∧ Sep (l) w') := by
 refine enter Try.func24 rfl Try.ntmps24 (Nat.le_of_ble_eq_true rfl) ?_; intro aa hS
 refine wp_seq_k ?_; intro K1230 hK1230
 refine wp_region_lit ?_
 refine sB (Balloc hS hR info29 (by rfl) (by rfl) (by decide) ?_); clear hS hR; intro aa ww bb4 hS hR
 revert aa
 refine qN hR ?_
 intro aa hS
 refine wpList_nil ?_
 refine hK1230 _ _ ?_
 refine wp_seq_k ?_; intro K1231 hK1231
 refine wp_seq_k ?_; intro K1232 hK1232
 refine wp_region_lit ?_
 revert aa
 refine qM hR ?_
 intro aa hS
 refine sB (Bcall hS rfl Try.call35 (tbsome_nil (b := b) hR) (by decide) ?_); clear hS; intro aa ww vv hS hp
 clear hR
 obtain ⟨rfl, hR⟩ := hp
 refine sA hS hR (Yld.not hS rfl) (by decide) ?_; clear hS; intro aa hS
 refine wpList_nil ?_
 refine hK1232 _ _ ?_
 refine condT hS rfl ?_
 refine wp_seq_k ?_; intro K1233 hK1233
 refine wp_region_lit ?_
 refine sA hS hR (Yld.build hS rfl (bld29_)) (by decide) ?_; clear hS; intro aa hS
 refine sB (Bstore hS hR rfl rfl (by rfl) info29 (by rfl) pkQ (by rfl) (Nat.le_of_ble_eq_true rfl) ?_); clear hR; intro ww hR
 revert aa
 refine qN hR ?_
 intro aa hS
 refine wpList_nil ?_
 refine hK1233 _ _ ?_
 refine wp_ret ?_
 repeat first | with_reducible refine thenR ?_ | with_reducible refine blockR ?_ | with_reducible refine scopeR ?_
 refine retN (fn := Try.f24) (e := .ret) (.inl rfl) Try.results24 hS hR ⟨_, .cons (.agg rfl Try.underlying29 rfl info29 (Rds.cons (Rd.blk pkQ (by rfl)) (Rds.cons (Rd.blk pkQ (by rfl)) (Rds.nil))) (by rfl)) (.cons (.tmp rfl) (.nil)), rfl, ?_⟩
 try dsimp only [lay, List.set] at hR
 exact ⟨rfl, (hR.sub exQ)⟩
theorem tbMove_nil {s u i : Int} {k : Ky} {b : Nat} {l : List HP} {w : World} (hR : Sep (l) w) : CallR Try.prog 15 [.pointer none, .agg [.int .i64 s, .int .i64 u].toArray, .int .i64 i] w (fun v w' => v = .int .i64 1 ∧ Sep (l) w') := by
 refine enter Try.func15 rfl Try.ntmps15 (Nat.le_of_ble_eq_true rfl) ?_; intro aa hS
 refine wp_seq_k ?_; intro K1234 hK1234
 refine wp_region_lit ?_
 refine sB (Bbox hS hR rfl (by rfl) (by decide) ?_); clear hS hR; intro aa ww bb4 hS hR
 revert aa
 refine qN hR ?_
 intro aa hS
 refine wpList_nil ?_
 refine hK1234 _ _ ?_
 refine wp_seq_k ?_; intro K1235 hK1235
 refine wp_block ?_
 refine wp_seq_k ?_; intro K1236 hK1236
 refine wp_region_lit ?_
 revert aa
 refine qM hR ?_
 intro aa hS
 refine sB (Bcall hS rfl Try.call35 (tbsome_nil (b := b) hR) (by decide) ?_); clear hS; intro aa ww vv hS hp
 clear hR
 obtain ⟨rfl, hR⟩ := hp
 revert aa
 refine qA hR rfl (fun _ hS => Yld.not hS rfl) ?_
 refine qN hR ?_
 intro aa hS
 refine wpList_nil ?_
 refine hK1236 _ _ ?_
 refine condT hS rfl ?_
 refine wp_seq_k ?_; intro K1237 hK1237
 refine wp_region_lit ?_
 revert aa
 refine qN hR ?_
 intro aa hS
 refine wpList_nil ?_
 refine hK1237 _ _ ?_
 refine wp_ret ?_
 repeat first | with_reducible refine thenR ?_ | with_reducible refine blockR ?_ | with_reducible refine scopeR ?_
 refine ret1 (fn := Try.f15) (e := .ret) (.inl rfl) Try.results15 hS hR ⟨_, (.tmp rfl), ?_⟩
 try dsimp only [lay, List.set] at hR
 exact ⟨rfl, (hR.sub exQ)⟩
theorem tbIn_nil {s u i : Int} {k : Ky} {b : Nat} {l : List HP} {w : World} (hR : Sep (l) w) : CallR Try.prog 14 [.pointer none, .int .i64 i] w (fun v w' => v = .slice none 0 0 ∧ Sep (l) w') := by
 refine enter Try.func14 rfl Try.ntmps14 (Nat.le_of_ble_eq_true rfl) ?_; intro aa hS
 refine wp_seq_k ?_; intro K1238 hK1238
 refine wp_region_lit ?_
 revert aa
 refine qN hR ?_
 intro aa hS
 refine wpList_nil ?_
 refine hK1238 _ _ ?_
 refine wp_seq_k ?_; intro K1239 hK1239
 refine wp_seq_k ?_; intro K1240 hK1240
 refine wp_region_lit ?_
 revert aa
 refine qM hR ?_
 intro aa hS
 refine sB (Bcall hS rfl Try.call35 (tbsome_nil (b := b) hR) (by decide) ?_); clear hS; intro aa ww vv hS hp
 clear hR
 obtain ⟨rfl, hR⟩ := hp
 refine sA hS hR (Yld.not hS rfl) (by decide) ?_; clear hS; intro aa hS
 refine wpList_nil ?_
 refine hK1240 _ _ ?_
 refine condT hS rfl ?_
 refine wp_seq_k ?_; intro K1241 hK1241
 refine wp_region_lit ?_
 revert aa
 refine qN hR ?_
 intro aa hS
 refine wpList_nil ?_
 refine hK1241 _ _ ?_
 refine wp_ret ?_
 repeat first | with_reducible refine thenR ?_ | with_reducible refine blockR ?_ | with_reducible refine scopeR ?_
 refine ret1 (fn := Try.f14) (e := .ret) (.inl rfl) Try.results14 hS hR ⟨_, (.tmp rfl), ?_⟩
 try dsimp only [lay, List.set] at hR
 exact ⟨rfl, (hR.sub exQ)⟩
theorem tbFrom_nil {s u i : Int} {k : Ky} {b : Nat} {l : List HP} {w : World} (hR : Sep (l) w) : CallR Try.prog 32 [.pointer none, .int .u32 i] w (fun v w' => v = .slice none 0 0 ∧ Sep (l) w') := by
 refine enter Try.func32 rfl Try.ntmps32 (Nat.le_of_ble_eq_true rfl) ?_; intro aa hS
 refine wp_seq_k ?_; intro K1242 hK1242
 refine wp_region_lit ?_
 revert aa
 refine qN hR ?_
 intro aa hS
 refine wpList_nil ?_
 refine hK1242 _ _ ?_
 refine wp_seq_k ?_; intro K1243 hK1243
 refine wp_seq_k ?_; intro K1244 hK1244
 refine wp_region_lit ?_
 revert aa
 refine qM hR ?_
 intro aa hS
 refine sB (Bcall hS rfl Try.call35 (tbsome_nil (b := b) hR) (by decide) ?_); clear hS; intro aa ww vv hS hp
 clear hR
 obtain ⟨rfl, hR⟩ := hp
 refine sA hS hR (Yld.not hS rfl) (by decide) ?_; clear hS; intro aa hS
 refine wpList_nil ?_
 refine hK1244 _ _ ?_
 refine condT hS rfl ?_
 refine wp_seq_k ?_; intro K1245 hK1245
 refine wp_region_lit ?_
 revert aa
 refine qN hR ?_
 intro aa hS
 refine wpList_nil ?_
 refine hK1245 _ _ ?_
 refine wp_ret ?_
 repeat first | with_reducible refine thenR ?_ | with_reducible refine blockR ?_ | with_reducible refine scopeR ?_
 refine ret1 (fn := Try.f32) (e := .ret) (.inl rfl) Try.results32 hS hR ⟨_, (.tmp rfl), ?_⟩
 try dsimp only [lay, List.set] at hR
 exact ⟨rfl, (hR.sub exQ)⟩
theorem tbAll_nil {s u i : Int} {k : Ky} {b : Nat} {l : List HP} {w : World} (hR : Sep (l) w) : CallR Try.prog 29 [.pointer none] w (fun v w' => v = .slice none 0 0 ∧ Sep (l) w') := by
 refine enter Try.func29 rfl Try.ntmps29 (Nat.le_of_ble_eq_true rfl) ?_; intro aa hS
 refine wp_seq_k ?_; intro K1246 hK1246
 refine wp_region_lit ?_
 revert aa
 refine qN hR ?_
 intro aa hS
 refine wpList_nil ?_
 refine hK1246 _ _ ?_
 refine wp_seq_k ?_; intro K1247 hK1247
 refine wp_seq_k ?_; intro K1248 hK1248
 refine wp_region_lit ?_
 revert aa
 refine qM hR ?_
 intro aa hS
 refine sB (Bcall hS rfl Try.call35 (tbsome_nil (b := b) hR) (by decide) ?_); clear hS; intro aa ww vv hS hp
 clear hR
 obtain ⟨rfl, hR⟩ := hp
 refine sA hS hR (Yld.not hS rfl) (by decide) ?_; clear hS; intro aa hS
 refine wpList_nil ?_
 refine hK1248 _ _ ?_
 refine condT hS rfl ?_
 refine wp_seq_k ?_; intro K1249 hK1249
 refine wp_region_lit ?_
 revert aa
 refine qN hR ?_
 intro aa hS
 refine wpList_nil ?_
 refine hK1249 _ _ ?_
 refine wp_ret ?_
 repeat first | with_reducible refine thenR ?_ | with_reducible refine blockR ?_ | with_reducible refine scopeR ?_
 refine ret1 (fn := Try.f29) (e := .ret) (.inl rfl) Try.results29 hS hR ⟨_, (.tmp rfl), ?_⟩
 try dsimp only [lay, List.set] at hR
 exact ⟨rfl, (hR.sub exQ)⟩
theorem tbCount_nil {s u i : Int} {k : Ky} {b : Nat} {l : List HP} {w : World} (hR : Sep (l) w) : CallR Try.prog 33 [.pointer none, .int .u32 i] w (fun v w' => v = .int .i64 0 ∧ Sep (l) w') := by
 refine enter Try.func33 rfl Try.ntmps33 (Nat.le_of_ble_eq_true rfl) ?_; intro aa hS
 refine wp_seq_k ?_; intro K1250 hK1250
 refine wp_region_lit ?_
 revert aa
 refine qN hR ?_
 intro aa hS
 refine wpList_nil ?_
 refine hK1250 _ _ ?_
 refine wp_seq_k ?_; intro K1251 hK1251
 refine wp_seq_k ?_; intro K1252 hK1252
 refine wp_region_lit ?_
 revert aa
 refine qM hR ?_
 intro aa hS
 refine sB (Bcall hS rfl Try.call35 (tbsome_nil (b := b) hR) (by decide) ?_); clear hS; intro aa ww vv hS hp
 clear hR
 obtain ⟨rfl, hR⟩ := hp
 refine sA hS hR (Yld.not hS rfl) (by decide) ?_; clear hS; intro aa hS
 refine wpList_nil ?_
 refine hK1252 _ _ ?_
 refine condT hS rfl ?_
 refine wp_seq_k ?_; intro K1253 hK1253
 refine wp_region_lit ?_
 revert aa
 refine qN hR ?_
 intro aa hS
 refine wpList_nil ?_
 refine hK1253 _ _ ?_
 refine wp_ret ?_
 repeat first | with_reducible refine thenR ?_ | with_reducible refine blockR ?_ | with_reducible refine scopeR ?_
 refine ret1 (fn := Try.f33) (e := .ret) (.inl rfl) Try.results33 hS hR ⟨_, (.tmp rfl), ?_⟩
 try dsimp only [lay, List.set] at hR
 exact ⟨rfl, (hR.sub exQ)⟩
theorem tbLen_nil {s u i : Int} {k : Ky} {b : Nat} {l : List HP} {w : World} (hR : Sep (l) w) : CallR Try.prog 19 [.pointer none] w (fun v w' => v = .int .i64 0 ∧ Sep (l) w') := by
 refine enter Try.func19 rfl Try.ntmps19 (Nat.le_of_ble_eq_true rfl) ?_; intro aa hS
 refine wp_seq_k ?_; intro K1254 hK1254
 refine wp_region_lit ?_
 revert aa
 refine qN hR ?_
 intro aa hS
 refine wpList_nil ?_
 refine hK1254 _ _ ?_
 refine wp_seq_k ?_; intro K1255 hK1255
 refine wp_seq_k ?_; intro K1256 hK1256
 refine wp_region_lit ?_
 revert aa
 refine qM hR ?_
 intro aa hS
 refine sB (Bcall hS rfl Try.call35 (tbsome_nil (b := b) hR) (by decide) ?_); clear hS; intro aa ww vv hS hp
 clear hR
 obtain ⟨rfl, hR⟩ := hp
 refine sA hS hR (Yld.not hS rfl) (by decide) ?_; clear hS; intro aa hS
 refine wpList_nil ?_
 refine hK1256 _ _ ?_
 refine condT hS rfl ?_
 refine wp_seq_k ?_; intro K1257 hK1257
 refine wp_region_lit ?_
 revert aa
 refine qN hR ?_
 intro aa hS
 refine wpList_nil ?_
 refine hK1257 _ _ ?_
 refine wp_ret ?_
 repeat first | with_reducible refine thenR ?_ | with_reducible refine blockR ?_ | with_reducible refine scopeR ?_
 refine ret1 (fn := Try.f19) (e := .ret) (.inl rfl) Try.results19 hS hR ⟨_, (.tmp rfl), ?_⟩
 try dsimp only [lay, List.set] at hR
 exact ⟨rfl, (hR.sub exQ)⟩
theorem tbRoom_nil {s u i : Int} {k : Ky} {b : Nat} {l : List HP} {w : World} (hR : Sep (l) w) : CallR Try.prog 20 [.pointer none] w (fun v w' => v = .int .i64 0 ∧ Sep (l) w') := by
 refine enter Try.func20 rfl Try.ntmps20 (Nat.le_of_ble_eq_true rfl) ?_; intro aa hS
 refine wp_seq_k ?_; intro K1258 hK1258
 refine wp_region_lit ?_
 revert aa
 refine qN hR ?_
 intro aa hS
 refine wpList_nil ?_
 refine hK1258 _ _ ?_
 refine wp_seq_k ?_; intro K1259 hK1259
 refine wp_seq_k ?_; intro K1260 hK1260
 refine wp_region_lit ?_
 revert aa
 refine qM hR ?_
 intro aa hS
 refine sB (Bcall hS rfl Try.call35 (tbsome_nil (b := b) hR) (by decide) ?_); clear hS; intro aa ww vv hS hp
 clear hR
 obtain ⟨rfl, hR⟩ := hp
 refine sA hS hR (Yld.not hS rfl) (by decide) ?_; clear hS; intro aa hS
 refine wpList_nil ?_
 refine hK1260 _ _ ?_
 refine condT hS rfl ?_
 refine wp_seq_k ?_; intro K1261 hK1261
 refine wp_region_lit ?_
 revert aa
 refine qN hR ?_
 intro aa hS
 refine wpList_nil ?_
 refine hK1261 _ _ ?_
 refine wp_ret ?_
 repeat first | with_reducible refine thenR ?_ | with_reducible refine blockR ?_ | with_reducible refine scopeR ?_
 refine ret1 (fn := Try.f20) (e := .ret) (.inl rfl) Try.results20 hS hR ⟨_, (.tmp rfl), ?_⟩
 try dsimp only [lay, List.set] at hR
 exact ⟨rfl, (hR.sub exQ)⟩
theorem tbsome_zer {b : Nat} {l : List HP} {w : World} (hR : Sep (blk b [.pointer none, .pointer none, .pointer none, .pointer none, .slice none 0 0, .int .i64 0] 81 :: l) w) : CallR Try.prog 35 [.pointer (some ⟨b, 0, none⟩)] w (fun v w' => v = .bool false ∧ Sep (blk b [.pointer none, .pointer none, .pointer none, .pointer none, .slice none 0 0, .int .i64 0] 81 :: l) w') := by
 refine enter Try.func35 rfl Try.ntmps35 (Nat.le_of_ble_eq_true rfl) ?_; intro aa hS
 refine wp_seq_k ?_; intro K1262 hK1262
 refine wp_region_lit ?_
 revert aa
 refine qN hR ?_
 intro aa hS
 refine wpList_nil ?_
 refine hK1262 _ _ ?_
 refine wp_seq_k ?_; intro K1263 hK1263
 refine wp_region_lit ?_
 revert aa
 refine qM hR ?_
 refine qA hR rfl (fun _ hS => Yld.neqNil hS rfl rfl Try.underlying23) ?_
 refine qB (t := 4) true rfl (by rfl) ?_
 refine qM hR ?_
 refine qMg hR ?_
 refine qAg hR rfl rfl rfl (fun _ hS => Yld.nilCheck hS rfl) ?_
 refine qAg hR rfl rfl rfl (fun _ hS => Yld.fieldAddr hS rfl 2 Try.underlying81 rfl rfl info78 (by decide)) ?_
 refine qAg hR rfl rfl rfl (fun _ hS => Yld.load1 hS rfl Try.underlying78 rfl rdQ) ?_
 refine qAg hR rfl rfl rfl (fun _ hS => Yld.neqNil hS rfl rfl Try.underlying78) ?_
 refine qB (t := 10) false rfl (by rfl) ?_
 refine qA hR rfl (fun _ hS => Yld.pickT hS rfl rfl) ?_
 refine qN hR ?_
 intro aa hS
 refine wpList_nil ?_
 refine hK1263 _ _ ?_
 refine wp_ret ?_
 repeat first | with_reducible refine thenR ?_ | with_reducible refine blockR ?_ | with_reducible refine scopeR ?_
 refine ret1 (fn := Try.f35) (e := .ret) (.inl rfl) Try.results35 hS hR ⟨_, (.tmp rfl), ?_⟩
 exact ⟨rfl, (hR.sub exQ)⟩
theorem tbAdd_zer {s u i : Int} {k : Ky} {b : Nat} {l : List HP} {w : World} (hR : Sep (blk b [.pointer none, .pointer none, .pointer none, .pointer none, .slice none 0 0, .int .i64 0] 81 :: l) w) : CallR Try.prog 18 [.pointer (some ⟨b, 0, none⟩), vK k, .int .i64 i] w (fun v w' => v = .tuple [vH 0 0, .int .i64 1].toArray ∧ Sep (blk b [.pointer none, .pointer none, .pointer none, .pointer none, .slice none 0 0, .int .i64 0] 81 :: l) w') := by
 refine enter Try.func18 rfl Try.ntmps18 (Nat.le_of_ble_eq_true rfl) ?_; intro aa hS
 refine wp_seq_k ?_; intro K1264 hK1264
 refine wp_region_lit ?_
 refine sB (Bbox hS hR rfl (by rfl) (by decide) ?_); clear hS hR; intro aa ww bb4 hS hR
 refine sB (Balloc hS hR info29 (by rfl) (by rfl) (by decide) ?_); clear hS hR; intro aa ww bb6 hS hR
 revert aa
 refine qN hR ?_
 intro aa hS
 refine wpList_nil ?_
 refine hK1264 _ _ ?_
 refine wp_seq_k ?_; intro K1265 hK1265
 refine wp_seq_k ?_; intro K1266 hK1266
 refine wp_region_lit ?_
 revert aa
 refine qM hR ?_
 intro aa hS
 refine sB (Bcall hS rfl Try.call35 (tbsome_zer (b := b) (hR.pk (r := blk b _ _) pkQ)) (by decide) ?_); clear hS; intro aa ww vv hS hp
 clear hR
 obtain ⟨rfl, hR⟩ := hp
 refine sA hS hR (Yld.not hS rfl) (by decide) ?_; clear hS; intro aa hS
 refine wpList_nil ?_
 refine hK1266 _ _ ?_
 refine condT hS rfl ?_
 refine wp_seq_k ?_; intro K1267 hK1267
 refine wp_region_lit ?_
 refine sA hS hR (Yld.build hS rfl (bld29_)) (by decide) ?_; clear hS; intro aa hS
 refine sB (Bstore hS hR rfl rfl (by rfl) info29 (by rfl) pkQ (by rfl) (Nat.le_of_ble_eq_true rfl) ?_); clear hR; intro ww hR
 revert aa
 refine qN hR ?_
 intro aa hS
 refine wpList_nil ?_
 refine hK1267 _ _ ?_
 refine wp_ret ?_
 repeat first | with_reducible refine thenR ?_ | with_reducible refine blockR ?_ | with_reducible refine scopeR ?_
 refine retN (fn := Try.f18) (e := .ret) (.inl rfl) Try.results18 hS hR ⟨_, .cons (.agg rfl Try.underlying29 rfl info29 (Rds.cons (Rd.blk pkQ (by rfl)) (Rds.cons (Rd.blk pkQ (by rfl)) (Rds.nil))) (by rfl)) (.cons (.tmp rfl) (.nil)), rfl, ?_⟩
 try dsimp only [lay, List.set] at hR
 exact ⟨rfl, (hR.sub exQ)⟩
theorem tbOut_zer {s u i : Int} {k : Ky} {b : Nat} {l : List HP} {w : World} (hR : Sep (blk b [.pointer none, .pointer none, .pointer none, .pointer none, .slice none 0 0, .int .i64 0] 81 :: l) w) : CallR Try.prog 21 [.pointer (some ⟨b, 0, none⟩), .agg [.int .i64 s, .int .i64 u].toArray] w (fun v w' => v = .tuple [vK k0, .int .i64 1].toArray ∧ Sep (blk b [.pointer none, .pointer none, .pointer none, .pointer none, .slice none 0 0, .int .i64 0] 81 :: l) w') := by
 refine enter Try.func21 rfl Try.ntmps21 (Nat.le_of_ble_eq_true rfl) ?_; intro aa hS
 refine wp_seq_k ?_; intro K1268 hK1268
 refine wp_region_lit ?_
 refine sB (Bbox hS hR rfl (by rfl) (by decide) ?_); clear hS hR; intro aa ww bb3 hS hR
 refine sB (Balloc hS hR info35 (by rfl) (by rfl) (by decide) ?_); clear hS hR; intro aa ww bb4 hS hR
 revert aa
 refine qN hR ?_
 intro aa hS
 refine wpList_nil ?_
 refine hK1268 _ _ ?_
 refine wp_seq_k ?_; intro K1269 hK1269
 refine wp_seq_k ?_; intro K1270 hK1270
 refine wp_region_lit ?_
 revert aa
 refine qM hR ?_
 intro aa hS
 refine sB (Bcall hS rfl Try.call35 (tbsome_zer (b := b) (hR.pk (r := blk b _ _) pkQ)) (by decide) ?_); clear hS; intro aa ww vv hS hp
 clear hR
 obtain ⟨rfl, hR⟩ := hp
 refine sA hS hR (Yld.not hS rfl) (by decide) ?_; clear hS; intro aa hS
 refine wpList_nil ?_
 refine hK1270 _ _ ?_
 refine condT hS rfl ?_
 refine wp_seq_k ?_; intro K1271 hK1271
 refine wp_region_lit ?_
 refine sA hS hR (Yld.build hS rfl (bld35_)) (by decide) ?_; clear hS; intro aa hS
 refine sB (Bstore hS hR rfl rfl (by rfl) info35 (by rfl) pkQ (by rfl) (Nat.le_of_ble_eq_true rfl) ?_); clear hR; intro ww hR
 revert aa
 refine qN hR ?_
 intro aa hS
 refine wpList_nil ?_
 refine hK1271 _ _ ?_
 refine wp_ret ?_
 repeat first | with_reducible refine thenR ?_ | with_reducible refine blockR ?_ | with_reducible refine scopeR ?_
 refine retN (fn := Try.f21) (e := .ret) (.inl rfl) Try.results21 hS hR ⟨_, .cons (.agg rfl Try.underlying35 rfl info35 (Rds.cons (Rd.blk pkQ (by rfl)) (Rds.cons (Rd.blk pkQ (by rfl)) (Rds.cons (Rd.blk pkQ (by rfl)) (Rds.cons (Rd.blk pkQ (by rfl)) (Rds.cons (Rd.blk pkQ (by rfl)) (Rds.nil)))))) (by rfl)) (.cons (.tmp rfl) (.nil)), rfl, ?_⟩
 try dsimp only [lay, List.set] at hR
 exact ⟨rfl, (hR.sub exQ)⟩
theorem tbFind_zer {s u i : Int} {k : Ky} {b : Nat} {l : List HP} {w : World} (hR : Sep (blk b [.pointer none, .pointer none, .pointer none, .pointer none, .slice none 0 0, .int .i64 0] 81 :: l) w) : CallR Try.prog 12 [.pointer (some ⟨b, 0, none⟩), vK k] w (fun v w' => v = .tuple [vH 0 0, .bool false, .bool false].toArray ∧ Sep (blk b [.pointer none, .pointer none, .pointer none, .pointer none, .slice none 0 0, .int .i64 0] 81 :: l) w') := by
 refine enter Try.func12 rfl Try.ntmps12 (Nat.le_of_ble_eq_true rfl) ?_; intro aa hS
 refine wp_seq_k ?_; intro K1272 hK1272
 refine wp_region_lit ?_
 refine sB (Bbox hS hR rfl (by rfl) (by decide) ?_); clear hS hR; intro aa ww bb3 hS hR
 refine sB (Balloc hS hR info29 (by rfl) (by rfl) (by decide) ?_); clear hS hR; intro aa ww bb4 hS hR
 revert aa
 refine qN hR ?_
 refine qN hR ?_
 intro aa hS
 refine wpList_nil ?_
 refine hK1272 _ _ ?_
 refine wp_seq_k ?_; intro K1273 hK1273
 refine wp_seq_k ?_; intro K1274 hK1274
 refine wp_region_lit ?_
 revert aa
 refine qM hR ?_
 intro aa hS
 refine sB (Bcall hS rfl Try.call35 (tbsome_zer (b := b) (hR.pk (r := blk b _ _) pkQ)) (by decide) ?_); clear hS; intro aa ww vv hS hp
 clear hR
 obtain ⟨rfl, hR⟩ := hp
 refine sA hS hR (Yld.not hS rfl) (by decide) ?_; clear hS; intro aa hS
 refine wpList_nil ?_
 refine hK1274 _ _ ?_
 refine condT hS rfl ?_
 refine wp_seq_k ?_; intro K1275 hK1275
 refine wp_region_lit ?_
 refine sA hS hR (Yld.build hS rfl (bld29_)) (by decide) ?_; clear hS; intro aa hS
 refine sB (Bstore hS hR rfl rfl (by rfl) info29 (by rfl) pkQ (by rfl) (Nat.le_of_ble_eq_true rfl) ?_); clear hR; intro ww hR
 revert aa
 refine qN hR ?_
 refine qN hR ?_
 intro aa hS
 refine wpList_nil ?_
 refine hK1275 _ _ ?_
 refine wp_ret ?_
 repeat first | with_reducible refine thenR ?_ | with_reducible refine blockR ?_ | with_reducible refine scopeR ?_
 refine retN (fn := Try.f12) (e := .ret) (.inl rfl) Try.results12 hS hR ⟨_, .cons (.agg rfl Try.underlying29 rfl info29 (Rds.cons (Rd.blk pkQ (by rfl)) (Rds.cons (Rd.blk pkQ (by rfl)) (Rds.nil))) (by rfl)) (.cons (.tmp rfl) (.cons (.tmp rfl) (.nil))), rfl, ?_⟩
 try dsimp only [lay, List.set] at hR
 exact ⟨rfl, (hR.sub exQ)⟩
theorem tbKey_zer {s u i : Int} {k : Ky} {b : Nat} {l : List HP} {w : World} (hR : Sep (blk b [.pointer none, .pointer none, .pointer none, .pointer none, .slice none 0 0, .int .i64 0] 81 :: l) w) : CallR Try.prog 22 [.pointer (some ⟨b, 0, none⟩), .agg [.int .i64 s, .int .i64 u].toArray] w (fun v w' => v = .tuple [vK k0, .bool false].toArray ∧ Sep (blk b [.pointer none, .pointer none, .pointer none, .pointer none, .slice none 0 0, .int .i64 0] 81 :: l) w') := by
 refine enter Try.func22 rfl Try.ntmps22 (Nat.le_of_ble_eq_true rfl) ?_; intro aa hS
 refine wp_seq_k ?_; intro K1276 hK1276
 refine wp_region_lit ?_
 refine sB (Bbox hS hR rfl (by rfl) (by decide) ?_); clear hS hR; intro aa ww bb3 hS hR
 refine sB (Balloc hS hR info35 (by rfl) (by rfl) (by decide) ?_); clear hS hR; intro aa ww bb4 hS hR
 revert aa
 refine qN hR ?_
 intro aa hS
 refine wpList_nil ?_
 refine hK1276 _ _ ?_
 refine wp_seq_k ?_; intro K1277 hK1277
 refine wp_seq_k ?_; intro K1278 hK1278
 refine drawn krQ hR Ex.refl ?_; clear hR; intro ww hR hR0
 revert aa
 refine eA 0 rfl krQ (fun _ _ _ h => h) hR0 rfl (fun _ hS => Yld.move hS rfl) ?_
 intro aa hS
 refine dOne (i := 1) krQ ?_
 refine dop rfl (Bcall hS rfl Try.call35 (tbsome_zer (b := b) (hR.pk (r := blk b _ _) pkQ)) (by decide) ?_); clear hS; intro aa ww vv hS hp
 clear hR hR0
 obtain ⟨rfl, hR⟩ := hp
 refine dnext (hR.sub exQ) ?_; intro hR0
 revert aa
 refine eA 2 rfl krQ (fun _ _ _ h => h) hR0 rfl (fun _ hS => Yld.not hS rfl) ?_
 refine eA 3 rfl krQ (fun _ _ _ h => h) hR0 rfl (fun _ hS => Yld.move hS rfl) ?_
 refine eZ 4 rfl hR0 ?_
 refine eZ 5 rfl hR0 ?_
 refine eZ 6 rfl hR0 ?_
 refine eZ 7 rfl hR0 ?_
 refine eZ 8 rfl hR0 ?_
 refine eZ 9 rfl hR0 ?_
 refine eZ 10 rfl hR0 ?_
 refine eA 11 rfl krQ (fun _ _ _ h => h) hR0 rfl (fun _ hS => Yld.pickT hS rfl rfl) ?_
 intro aa hS
 refine wpAnyH_done krQ ?_ _; clear hR0
 refine hK1278 _ _ ?_
 refine condT hS rfl ?_
 refine wp_seq_k ?_; intro K1279 hK1279
 refine wp_region_lit ?_
 refine sA hS hR (Yld.build hS rfl (bld35_)) (by decide) ?_; clear hS; intro aa hS
 refine sB (Bstore hS hR rfl rfl (by rfl) info35 (by rfl) pkQ (by rfl) (Nat.le_of_ble_eq_true rfl) ?_); clear hR; intro ww hR
 revert aa
 refine qN hR ?_
 intro aa hS
 refine wpList_nil ?_
 refine hK1279 _ _ ?_
 refine wp_ret ?_
 repeat first | with_reducible refine thenR ?_ | with_reducible refine blockR ?_ | with_reducible refine scopeR ?_
 refine retN (fn := Try.f22) (e := .ret) (.inl rfl) Try.results22 hS hR ⟨_, .cons (.agg rfl Try.underlying35 rfl info35 (Rds.cons (Rd.blk pkQ (by rfl)) (Rds.cons (Rd.blk pkQ (by rfl)) (Rds.cons (Rd.blk pkQ (by rfl)) (Rds.cons (Rd.blk pkQ (by rfl)) (Rds.cons (Rd.blk pkQ (by rfl)) (Rds.nil)))))) (by rfl)) (.cons (.tmp rfl) (.nil)), rfl, ?_⟩
 try dsimp only [lay, List.set] at hR
 exact ⟨rfl, (hR.sub exQ)⟩
theorem tbList_zer {s u i : Int} {k : Ky} {b : Nat} {l : List HP} {w : World} (hR : Sep (blk b [.pointer none, .pointer none, .pointer none, .pointer none, .slice none 0 0, .int .i64 0] 81 :: l) w) : CallR Try.prog 13 [.pointer (some ⟨b, 0, none⟩), .agg [.int .i64 s, .int .i64 u].toArray] w (fun v w' => v = .tuple [.int .i64 0, .bool false].toArray ∧ Sep (blk b [.pointer none, .pointer none, .pointer none, .pointer none, .slice none 0 0, .int .i64 0] 81 :: l) w') := by
 refine enter Try.func13 rfl Try.ntmps13 (Nat.le_of_ble_eq_true rfl) ?_; intro aa hS
 refine wp_seq_k ?_; intro K1280 hK1280
 refine wp_region_lit ?_
 refine sB (Bbox hS hR rfl (by rfl) (by decide) ?_); clear hS hR; intro aa ww bb3 hS hR
 revert aa
 refine qN hR ?_
 refine qN hR ?_
 intro aa hS
 refine wpList_nil ?_
 refine hK1280 _ _ ?_
 refine wp_seq_k ?_; intro K1281 hK1281
 refine wp_seq_k ?_; intro K1282 hK1282
 refine wp_region_lit ?_
 revert aa
 refine qM hR ?_
 intro aa hS
 refine sA hS hR (Yld.loadAgg hS rfl Try.underlying29 rfl info29 rdsQ2 (by rfl)) (by decide) ?_; clear hS; intro aa hS
 refine sB (Bcall hS rfl Try.call22 (tbKey_zer (b := b) (s := s) (u := u) (i := 0) (k := k0) (hR.pk (r := blk b _ _) pkQ)) (by decide) ?_); clear hS; intro aa ww vv hS hp
 clear hR
 obtain ⟨rfl, hR⟩ := hp
 revert aa
 refine qM hR ?_
 refine qX hR ?_
 refine qX hR ?_
 refine qB (t := 13) false rfl (by rfl) ?_
 intro aa hS
 refine sB (Balloc hS hR info35 (by rfl) (by rfl) (by decide) ?_); clear hS hR; intro aa ww bb6 hS hR
 refine sB (Bstore hS hR rfl rfl (by rfl) info35 (by rfl) pkQ (by rfl) (Nat.le_of_ble_eq_true rfl) ?_); clear hR; intro ww hR
 revert aa
 refine qN hR ?_
 intro aa hS
 refine wpList_nil ?_
 refine hK1282 _ _ ?_
 refine wp_seq_k ?_; intro K1283 hK1283
 refine wp_region_lit ?_
 revert aa
 refine qM hR ?_
 refine qA hR rfl (fun _ hS => Yld.not hS rfl) ?_
 intro aa hS
 refine wpList_nil ?_
 refine hK1283 _ _ ?_
 refine condT hS rfl ?_
 refine wp_seq_k ?_; intro K1284 hK1284
 refine wp_region_lit ?_
 revert aa
 refine qN hR ?_
 refine qN hR ?_
 intro aa hS
 refine wpList_nil ?_
 refine hK1284 _ _ ?_
 refine wp_ret ?_
 repeat first | with_reducible refine thenR ?_ | with_reducible refine blockR ?_ | with_reducible refine scopeR ?_
 refine retN (fn := Try.f13) (e := .ret) (.inl rfl) Try.results13 hS hR ⟨_, .cons (.tmp rfl) (.cons (.tmp rfl) (.nil)), rfl, ?_⟩
 try dsimp only [lay, List.set] at hR
 exact ⟨rfl, (hR.sub exQ)⟩
theorem tbFirst_zer {s u i : Int} {k : Ky} {b : Nat} {l : List HP} {w : World} (hR : Sep (blk b [.pointer none, .pointer none, .pointer none, .pointer none, .slice none 0 0, .int .i64 0] 81 :: l) w) : CallR Try.prog 24 [.pointer (some ⟨b, 0, none⟩), .int .i64 i] w (fun v w' => v = .tuple [vH 0 0, .bool false].toArray ∧ Sep (blk b [.pointer none, .pointer none, .pointer none, .pointer none, .slice none 0 0, .int .i64 0] 81 :: l) w') := by
 refine enter Try.func24 rfl Try.ntmps24 (Nat.le_of_ble_eq_true rfl) ?_; intro aa hS
 refine wp_seq_k ?_; intro K1285 hK1285
 refine wp_region_lit ?_
 refine sB (Balloc hS hR info29 (by rfl) (by rfl) (by decide) ?_); clear hS hR; intro aa ww bb4 hS hR
 revert aa
 refine qN hR ?_
 intro aa hS
 refine wpList_nil ?_
 refine hK1285 _ _ ?_
 refine wp_seq_k ?_; intro K1286 hK1286
 refine wp_seq_k ?_; intro K1287 hK1287
 refine wp_region_lit ?_
 revert aa
 refine qM hR ?_
 intro aa hS
 refine sB (Bcall hS rfl Try.call35 (tbsome_zer (b := b) (hR.pk (r := blk b _ _) pkQ)) (by decide) ?_); clear hS; intro aa ww vv hS hp
 clear hR
 obtain ⟨rfl, hR⟩ := hp
 refine sA hS hR (Yld.not hS rfl) (by decide) ?_; clear hS; intro aa hS
 refine wpList_nil ?_
 refine hK1287 _ _ ?_
 refine condT hS rfl ?_
 refine wp_seq_k ?_; intro K1288 hK1288
 refine wp_region_lit ?_
 refine sA hS hR (Yld.build hS rfl (bld29_)) (by decide) ?_; clear hS; intro aa hS
 refine sB (Bstore hS hR rfl rfl (by rfl) info29 (by rfl) pkQ (by rfl) (Nat.le_of_ble_eq_true rfl) ?_); clear hR; intro ww hR
 revert aa
 refine qN hR ?_
 intro aa hS
 refine wpList_nil ?_
 refine hK1288 _ _ ?_
 refine wp_ret ?_
 repeat first | with_reducible refine thenR ?_ | with_reducible refine blockR ?_ | with_reducible refine scopeR ?_
 refine retN (fn := Try.f24) (e := .ret) (.inl rfl) Try.results24 hS hR ⟨_, .cons (.agg rfl Try.underlying29 rfl info29 (Rds.cons (Rd.blk pkQ (by rfl)) (Rds.cons (Rd.blk pkQ (by rfl)) (Rds.nil))) (by rfl)) (.cons (.tmp rfl) (.nil)), rfl, ?_⟩
 try dsimp only [lay, List.set] at hR
 exact ⟨rfl, (hR.sub exQ)⟩
theorem tbMove_zer {s u i : Int} {k : Ky} {b : Nat} {l : List HP} {w : World} (hR : Sep (blk b [.pointer none, .pointer none, .pointer none, .pointer none, .slice none 0 0, .int .i64 0] 81 :: l) w) : CallR Try.prog 15 [.pointer (some ⟨b, 0, none⟩), .agg [.int .i64 s, .int .i64 u].toArray, .int .i64 i] w (fun v w' => v = .int .i64 1 ∧ Sep (blk b [.pointer none, .pointer none, .pointer none, .pointer none, .slice none 0 0, .int .i64 0] 81 :: l) w') := by
 refine enter Try.func15 rfl Try.ntmps15 (Nat.le_of_ble_eq_true rfl) ?_; intro aa hS
 refine wp_seq_k ?_; intro K1289 hK1289
 refine wp_region_lit ?_
 refine sB (Bbox hS hR rfl (by rfl) (by decide) ?_); clear hS hR; intro aa ww bb4 hS hR
 revert aa
 refine qN hR ?_
 intro aa hS
 refine wpList_nil ?_
 refine hK1289 _ _ ?_
 refine wp_seq_k ?_; intro K1290 hK1290
 refine wp_block ?_
 refine wp_seq_k ?_; intro K1291 hK1291
 refine wp_region_lit ?_
 revert aa
 refine qM hR ?_
 intro aa hS
 refine sB (Bcall hS rfl Try.call35 (tbsome_zer (b := b) (hR.pk (r := blk b _ _) pkQ)) (by decide) ?_); clear hS; intro aa ww vv hS hp
 clear hR
 obtain ⟨rfl, hR⟩ := hp
 revert aa
 refine qA hR rfl (fun _ hS => Yld.not hS rfl) ?_
 refine qN hR ?_
 intro aa hS
 refine wpList_nil ?_
 refine hK1291 _ _ ?_
 refine condT hS rfl ?_
 refine wp_seq_k ?_; intro K1292 hK1292
 refine wp_region_lit ?_
 revert aa
 refine qN hR ?_
 intro aa hS
 refine wpList_nil ?_
 refine hK1292 _ _ ?_
 refine wp_ret ?_
 repeat first | with_reducible refine thenR ?_ | with_reducible refine blockR ?_ | with_reducible refine scopeR ?_
 refine ret1 (fn := Try.f15) (e := .ret) (.inl rfl) Try.results15 hS hR ⟨_, (.tmp rfl), ?_⟩
 try dsimp only [lay, List.set] at hR
 exact ⟨rfl, (hR.sub exQ)⟩
theorem tbIn_zer {s u i : Int} {k : Ky} {b : Nat} {l : List HP} {w : World} (hR : Sep (blk b [.pointer none, .pointer none, .pointer none, .pointer none, .slice none 0 0, .int .i64 0] 81 :: l) w) : CallR Try.prog 14 [.pointer (some ⟨b, 0, none⟩), .int .i64 i] w (fun v w' => v = .slice none 0 0 ∧ Sep (blk b [.pointer none, .pointer none, .pointer none, .pointer none, .slice none 0 0, .int .i64 0] 81 :: l) w') := by
 refine enter Try.func14 rfl Try.ntmps14 (Nat.le_of_ble_eq_true rfl) ?_; intro aa hS
 refine wp_seq_k ?_; intro K1293 hK1293
 refine wp_region_lit ?_
 revert aa
 refine qN hR ?_
 intro aa hS
 refine wpList_nil ?_
 refine hK1293 _ _ ?_
 refine wp_seq_k ?_; intro K1294 hK1294
 refine wp_seq_k ?_; intro K1295 hK1295
 refine wp_region_lit ?_
 revert aa
 refine qM hR ?_
 intro aa hS
 refine sB (Bcall hS rfl Try.call35 (tbsome_zer (b := b) (hR.pk (r := blk b _ _) pkQ)) (by decide) ?_); clear hS; intro aa ww vv hS hp
 clear hR
 obtain ⟨rfl, hR⟩ := hp
 refine sA hS hR (Yld.not hS rfl) (by decide) ?_; clear hS; intro aa hS
 refine wpList_nil ?_
 refine hK1295 _ _ ?_
 refine condT hS rfl ?_
 refine wp_seq_k ?_; intro K1296 hK1296
 refine wp_region_lit ?_
 revert aa
 refine qN hR ?_
 intro aa hS
 refine wpList_nil ?_
 refine hK1296 _ _ ?_
 refine wp_ret ?_
 repeat first | with_reducible refine thenR ?_ | with_reducible refine blockR ?_ | with_reducible refine scopeR ?_
 refine ret1 (fn := Try.f14) (e := .ret) (.inl rfl) Try.results14 hS hR ⟨_, (.tmp rfl), ?_⟩
 try dsimp only [lay, List.set] at hR
 exact ⟨rfl, (hR.sub exQ)⟩
theorem tbFrom_zer {s u i : Int} {k : Ky} {b : Nat} {l : List HP} {w : World} (hR : Sep (blk b [.pointer none, .pointer none, .pointer none, .pointer none, .slice none 0 0, .int .i64 0] 81 :: l) w) : CallR Try.prog 32 [.pointer (some ⟨b, 0, none⟩), .int .u32 i] w (fun v w' => v = .slice none 0 0 ∧ Sep (blk b [.pointer none, .pointer none, .pointer none, .pointer none, .slice none 0 0, .int .i64 0] 81 :: l) w') := by
 refine enter Try.func32 rfl Try.ntmps32 (Nat.le_of_ble_eq_true rfl) ?_; intro aa hS
 refine wp_seq_k ?_; intro K1297 hK1297
 refine wp_region_lit ?_
 revert aa
 refine qN hR ?_
 intro aa hS
 refine wpList_nil ?_
 refine hK1297 _ _ ?_
 refine wp_seq_k ?_; intro K1298 hK1298
 refine wp_seq_k ?_; intro K1299 hK1299
 refine wp_region_lit ?_
 revert aa
 refine qM hR ?_
 intro aa hS
 refine sB (Bcall hS rfl Try.call35 (tbsome_zer (b := b) (hR.pk (r := blk b _ _) pkQ)) (by decide) ?_); clear hS; intro aa ww vv hS hp
 clear hR
 obtain ⟨rfl, hR⟩ := hp
 refine sA hS hR (Yld.not hS rfl) (by decide) ?_; clear hS; intro aa hS
 refine wpList_nil ?_
 refine hK1299 _ _ ?_
 refine condT hS rfl ?_
 refine wp_seq_k ?_; intro K1300 hK1300
 refine wp_region_lit ?_
 revert aa
 refine qN hR ?_
 intro aa hS
 refine wpList_nil ?_
 refine hK1300 _ _ ?_
 refine wp_ret ?_
 repeat first | with_reducible refine thenR ?_ | with_reducible refine blockR ?_ | with_reducible refine scopeR ?_
 refine ret1 (fn := Try.f32) (e := .ret) (.inl rfl) Try.results32 hS hR ⟨_, (.tmp rfl), ?_⟩
 try dsimp only [lay, List.set] at hR
 exact ⟨rfl, (hR.sub exQ)⟩
theorem tbAll_zer {s u i : Int} {k : Ky} {b : Nat} {l : List HP} {w : World} (hR : Sep (blk b [.pointer none, .pointer none, .pointer none, .pointer none, .slice none 0 0, .int .i64 0] 81 :: l) w) : CallR Try.prog 29 [.pointer (some ⟨b, 0, none⟩)] w (fun v w' => v = .slice none 0 0 ∧ Sep (blk b [.pointer none, .pointer none, .pointer none, .pointer none, .slice none 0 0, .int .i64 0] 81 :: l) w') := by
 refine enter Try.func29 rfl Try.ntmps29 (Nat.le_of_ble_eq_true rfl) ?_; intro aa hS
 refine wp_seq_k ?_; intro K1301 hK1301
 refine wp_region_lit ?_
 revert aa
 refine qN hR ?_
 intro aa hS
 refine wpList_nil ?_
 refine hK1301 _ _ ?_
 refine wp_seq_k ?_; intro K1302 hK1302
 refine wp_seq_k ?_; intro K1303 hK1303
 refine wp_region_lit ?_
 revert aa
 refine qM hR ?_
 intro aa hS
 refine sB (Bcall hS rfl Try.call35 (tbsome_zer (b := b) (hR.pk (r := blk b _ _) pkQ)) (by decide) ?_); clear hS; intro aa ww vv hS hp
 clear hR
 obtain ⟨rfl, hR⟩ := hp
 refine sA hS hR (Yld.not hS rfl) (by decide) ?_; clear hS; intro aa hS
 refine wpList_nil ?_
 refine hK1303 _ _ ?_
 refine condT hS rfl ?_
 refine wp_seq_k ?_; intro K1304 hK1304
 refine wp_region_lit ?_
 revert aa
 refine qN hR ?_
 intro aa hS
 refine wpList_nil ?_
 refine hK1304 _ _ ?_
 refine wp_ret ?_
 repeat first | with_reducible refine thenR ?_ | with_reducible refine blockR ?_ | with_reducible refine scopeR ?_
 refine ret1 (fn := Try.f29) (e := .ret) (.inl rfl) Try.results29 hS hR ⟨_, (.tmp rfl), ?_⟩
 try dsimp only [lay, List.set] at hR
 exact ⟨rfl, (hR.sub exQ)⟩
theorem tbCount_zer {s u i : Int} {k : Ky} {b : Nat} {l : List HP} {w : World} (hR : Sep (blk b [.pointer none, .pointer none, .pointer none, .pointer none, .slice none 0 0, .int .i64 0] 81 :: l) w) : CallR Try.prog 33 [.pointer (some ⟨b, 0, none⟩), .int .u32 i] w (fun v w' => v = .int .i64 0 ∧ Sep (blk b [.pointer none, .pointer none, .pointer none, .pointer none, .slice none 0 0, .int .i64 0] 81 :: l) w') := by
 refine enter Try.func33 rfl Try.ntmps33 (Nat.le_of_ble_eq_true rfl) ?_; intro aa hS
 refine wp_seq_k ?_; intro K1305 hK1305
 refine wp_region_lit ?_
 revert aa
 refine qN hR ?_
 intro aa hS
 refine wpList_nil ?_
 refine hK1305 _ _ ?_
 refine wp_seq_k ?_; intro K1306 hK1306
 refine wp_seq_k ?_; intro K1307 hK1307
 refine wp_region_lit ?_
 revert aa
 refine qM hR ?_
 intro aa hS
 refine sB (Bcall hS rfl Try.call35 (tbsome_zer (b := b) (hR.pk (r := blk b _ _) pkQ)) (by decide) ?_); clear hS; intro aa ww vv hS hp
 clear hR
 obtain ⟨rfl, hR⟩ := hp
 refine sA hS hR (Yld.not hS rfl) (by decide) ?_; clear hS; intro aa hS
 refine wpList_nil ?_
 refine hK1307 _ _ ?_
 refine condT hS rfl ?_
 refine wp_seq_k ?_; intro K1308 hK1308
 refine wp_region_lit ?_
 revert aa
 refine qN hR ?_
 intro aa hS
 refine wpList_nil ?_
 refine hK1308 _ _ ?_
 refine wp_ret ?_
 repeat first | with_reducible refine thenR ?_ | with_reducible refine blockR ?_ | with_reducible refine scopeR ?_
 refine ret1 (fn := Try.f33) (e := .ret) (.inl rfl) Try.results33 hS hR ⟨_, (.tmp rfl), ?_⟩
 try dsimp only [lay, List.set] at hR
 exact ⟨rfl, (hR.sub exQ)⟩
theorem tbLen_zer {s u i : Int} {k : Ky} {b : Nat} {l : List HP} {w : World} (hR : Sep (blk b [.pointer none, .pointer none, .pointer none, .pointer none, .slice none 0 0, .int .i64 0] 81 :: l) w) : CallR Try.prog 19 [.pointer (some ⟨b, 0, none⟩)] w (fun v w' => v = .int .i64 0 ∧ Sep (blk b [.pointer none, .pointer none, .pointer none, .pointer none, .slice none 0 0, .int .i64 0] 81 :: l) w') := by
 refine enter Try.func19 rfl Try.ntmps19 (Nat.le_of_ble_eq_true rfl) ?_; intro aa hS
 refine wp_seq_k ?_; intro K1309 hK1309
 refine wp_region_lit ?_
 revert aa
 refine qN hR ?_
 intro aa hS
 refine wpList_nil ?_
 refine hK1309 _ _ ?_
 refine wp_seq_k ?_; intro K1310 hK1310
 refine wp_seq_k ?_; intro K1311 hK1311
 refine wp_region_lit ?_
 revert aa
 refine qM hR ?_
 intro aa hS
 refine sB (Bcall hS rfl Try.call35 (tbsome_zer (b := b) (hR.pk (r := blk b _ _) pkQ)) (by decide) ?_); clear hS; intro aa ww vv hS hp
 clear hR
 obtain ⟨rfl, hR⟩ := hp
 refine sA hS hR (Yld.not hS rfl) (by decide) ?_; clear hS; intro aa hS
 refine wpList_nil ?_
 refine hK1311 _ _ ?_
 refine condT hS rfl ?_
 refine wp_seq_k ?_; intro K1312 hK1312
 refine wp_region_lit ?_
 revert aa
 refine qN hR ?_
 intro aa hS
 refine wpList_nil ?_
 refine hK1312 _ _ ?_
 refine wp_ret ?_
 repeat first | with_reducible refine thenR ?_ | with_reducible refine blockR ?_ | with_reducible refine scopeR ?_
 refine ret1 (fn := Try.f19) (e := .ret) (.inl rfl) Try.results19 hS hR ⟨_, (.tmp rfl), ?_⟩
 try dsimp only [lay, List.set] at hR
 exact ⟨rfl, (hR.sub exQ)⟩
theorem tbRoom_zer {s u i : Int} {k : Ky} {b : Nat} {l : List HP} {w : World} (hR : Sep (blk b [.pointer none, .pointer none, .pointer none, .pointer none, .slice none 0 0, .int .i64 0] 81 :: l) w) : CallR Try.prog 20 [.pointer (some ⟨b, 0, none⟩)] w (fun v w' => v = .int .i64 0 ∧ Sep (blk b [.pointer none, .pointer none, .pointer none, .pointer none, .slice none 0 0, .int .i64 0] 81 :: l) w') := by
 refine enter Try.func20 rfl Try.ntmps20 (Nat.le_of_ble_eq_true rfl) ?_; intro aa hS
 refine wp_seq_k ?_; intro K1313 hK1313
 refine wp_region_lit ?_
 revert aa
 refine qN hR ?_
 intro aa hS
 refine wpList_nil ?_
 refine hK1313 _ _ ?_
 refine wp_seq_k ?_; intro K1314 hK1314
 refine wp_seq_k ?_; intro K1315 hK1315
 refine wp_region_lit ?_
 revert aa
 refine qM hR ?_
 intro aa hS
 refine sB (Bcall hS rfl Try.call35 (tbsome_zer (b := b) (hR.pk (r := blk b _ _) pkQ)) (by decide) ?_); clear hS; intro aa ww vv hS hp
 clear hR
 obtain ⟨rfl, hR⟩ := hp
 refine sA hS hR (Yld.not hS rfl) (by decide) ?_; clear hS; intro aa hS
 refine wpList_nil ?_
 refine hK1315 _ _ ?_
 refine condT hS rfl ?_
 refine wp_seq_k ?_; intro K1316 hK1316
 refine wp_region_lit ?_
 revert aa
 refine qN hR ?_
 intro aa hS
 refine wpList_nil ?_
 refine hK1316 _ _ ?_
 refine wp_ret ?_
 repeat first | with_reducible refine thenR ?_ | with_reducible refine blockR ?_ | with_reducible refine scopeR ?_
 refine ret1 (fn := Try.f20) (e := .ret) (.inl rfl) Try.results20 hS hR ⟨_, (.tmp rfl), ?_⟩
 try dsimp only [lay, List.set] at hR
 exact ⟨rfl, (hR.sub exQ)⟩
end Go.Proofs.Ythhndmlfgjcgpaa.Sx
