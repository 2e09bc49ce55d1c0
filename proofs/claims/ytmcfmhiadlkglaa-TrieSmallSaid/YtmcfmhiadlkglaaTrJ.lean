/-
  
-/
import Derived.Test.YtmcfmhiadlkglaaTrI
namespace Go.Proofs.Ytmcfmhiadlkglaa.Sx
open Go
set_option linter.unusedVariables false
set_option linter.unusedSimpArgs false



set_option maxRecDepth 20000 in
theorem tsome_n {l : List HP} {w : World} (hR : Sep (l) w) : CallR Try.prog 32 [.pointer none] w (fun v w' => v = .bool false ∧ Sep (l) w') := by
  refine enter Try.func32 rfl Try.ntmps32 (Nat.le_of_ble_eq_true rfl) ?_; intro aa hS
  refine wp_seq_k ?_; intro K267 hK267
  refine wp_region_lit ?_
  refine sA hS hR (Yld.assign hS rfl) (by decide) ?_; clear hS; intro aa hS
  refine wpList_nil ?_
  refine hK267 _ _ ?_
  refine wp_seq_k ?_; intro K268 hK268
  refine wp_region_lit ?_
  refine sA hS hR (Yld.move hS rfl) (by decide) ?_; clear hS; intro aa hS
  refine sA hS hR (Yld.neqNil hS rfl rfl Try.underlying26) (by decide) ?_; clear hS; intro aa hS
  replace hS := hS.sayB (t := 4) false rfl (by rfl)
  refine sA hS hR (Yld.move hS rfl) (by decide) ?_; clear hS; intro aa hS
  refine sSkip hS rfl rfl rfl (by decide) ?_; clear hS; intro aa hS
  refine sSkip hS rfl rfl rfl (by decide) ?_; clear hS; intro aa hS
  refine sSkip hS rfl rfl rfl (by decide) ?_; clear hS; intro aa hS
  refine sSkip hS rfl rfl rfl (by decide) ?_; clear hS; intro aa hS
  refine sSkip hS rfl rfl rfl (by decide) ?_; clear hS; intro aa hS
  refine sSkip hS rfl rfl rfl (by decide) ?_; clear hS; intro aa hS
  refine sA hS hR (Yld.pickF hS rfl rfl) (by decide) ?_; clear hS; intro aa hS
  refine sA hS hR (Yld.assign hS rfl) (by decide) ?_; clear hS; intro aa hS
  refine wpList_nil ?_
  refine hK268 _ _ ?_
  refine wp_ret ?_
  repeat (first | with_reducible refine thenR ?_ | with_reducible refine blockR ?_ | with_reducible refine scopeR ?_)
  refine ret1 (fn := Try.f32) (e := .ret) (.inl rfl) Try.results32 hS hR ⟨_, (.tmp rfl), ?_⟩
  exact ⟨rfl, (hR.sub exQ)⟩
set_option maxRecDepth 20000 in
theorem tPut_n {k : Ky} {i : Int} {l : List HP} {w : World} (hR : Sep (l) w) : CallR Try.prog 12 [.pointer none, vK k, .int .i64 i] w (fun v w' => v = .int .i64 1 ∧ Sep (l) w') := by
  refine enter Try.func12 rfl Try.ntmps12 (Nat.le_of_ble_eq_true rfl) ?_; intro aa hS
  refine wp_seq_k ?_; intro K269 hK269
  refine wp_region_lit ?_
  refine sB (Bbox hS hR rfl (by rfl) (by decide) ?_); clear hS hR; intro aa ww bb3 hS hR
  refine sB (Bbox hS hR rfl (by rfl) (by decide) ?_); clear hS hR; intro aa ww bb4 hS hR
  refine sA hS hR (Yld.assign hS rfl) (by decide) ?_; clear hS; intro aa hS
  refine wpList_nil ?_
  refine hK269 _ _ ?_
  refine wp_seq_k ?_; intro K270 hK270
  refine wp_seq_k ?_; intro K271 hK271
  refine wp_region_lit ?_
  refine sA hS hR (Yld.load1 hS rfl Try.underlying26 rfl (by first | exact Rd.blk pkQ (by rfl) | exact Rd.rec pkQ (by intro _; rfl) (by omega) rfl | exact Rd.rec0 pkQ (by intro _; rfl) (by omega) rfl | exact Rd.flatJ pkQ (by intro _; rfl) (by omega) rfl | exact Rd.flat0 pkQ (by intro _; rfl) (by omega) rfl)) (by decide) ?_; clear hS; intro aa hS
  refine sB (Bcall hS rfl Try.call32 (tsome_n hR) (by decide) ?_); clear hS; intro aa ww vv hS hp
  clear hR
  obtain ⟨rfl, hR⟩ := hp
  refine sA hS hR (Yld.not hS rfl) (by decide) ?_; clear hS; intro aa hS
  refine wpList_nil ?_
  refine hK271 _ _ ?_
  refine condT hS rfl ?_
  refine wp_seq_k ?_; intro K272 hK272
  refine wp_region_lit ?_
  refine sA hS hR (Yld.assign hS rfl) (by decide) ?_; clear hS; intro aa hS
  refine wpList_nil ?_
  refine hK272 _ _ ?_
  refine wp_ret ?_
  repeat (first | with_reducible refine thenR ?_ | with_reducible refine blockR ?_ | with_reducible refine scopeR ?_)
  refine ret1 (fn := Try.f12) (e := .ret) (.inl rfl) Try.results12 hS hR ⟨_, (.tmp rfl), ?_⟩
  exact ⟨rfl, (hR.sub exQ)⟩
set_option maxRecDepth 20000 in
theorem tOut_n {k : Ky} {l : List HP} {w : World} (hR : Sep (l) w) : CallR Try.prog 13 [.pointer none, vK k] w (fun v w' => v = .tuple [.int .i64 0, .int .i64 1].toArray ∧ Sep (l) w') := by
  refine enter Try.func13 rfl Try.ntmps13 (Nat.le_of_ble_eq_true rfl) ?_; intro aa hS
  refine wp_seq_k ?_; intro K273 hK273
  refine wp_region_lit ?_
  refine sB (Bbox hS hR rfl (by rfl) (by decide) ?_); clear hS hR; intro aa ww bb2 hS hR
  refine sB (Bbox hS hR rfl (by rfl) (by decide) ?_); clear hS hR; intro aa ww bb3 hS hR
  refine sA hS hR (Yld.assign hS rfl) (by decide) ?_; clear hS; intro aa hS
  refine sA hS hR (Yld.assign hS rfl) (by decide) ?_; clear hS; intro aa hS
  refine wpList_nil ?_
  refine hK273 _ _ ?_
  refine wp_seq_k ?_; intro K274 hK274
  refine wp_seq_k ?_; intro K275 hK275
  refine wp_region_lit ?_
  refine sA hS hR (Yld.load1 hS rfl Try.underlying26 rfl (by first | exact Rd.blk pkQ (by rfl) | exact Rd.rec pkQ (by intro _; rfl) (by omega) rfl | exact Rd.rec0 pkQ (by intro _; rfl) (by omega) rfl | exact Rd.flatJ pkQ (by intro _; rfl) (by omega) rfl | exact Rd.flat0 pkQ (by intro _; rfl) (by omega) rfl)) (by decide) ?_; clear hS; intro aa hS
  refine sB (Bcall hS rfl Try.call32 (tsome_n hR) (by decide) ?_); clear hS; intro aa ww vv hS hp
  clear hR
  obtain ⟨rfl, hR⟩ := hp
  refine sA hS hR (Yld.not hS rfl) (by decide) ?_; clear hS; intro aa hS
  refine wpList_nil ?_
  refine hK275 _ _ ?_
  refine condT hS rfl ?_
  refine wp_seq_k ?_; intro K276 hK276
  refine wp_region_lit ?_
  refine sA hS hR (Yld.assign hS rfl) (by decide) ?_; clear hS; intro aa hS
  refine sA hS hR (Yld.assign hS rfl) (by decide) ?_; clear hS; intro aa hS
  refine wpList_nil ?_
  refine hK276 _ _ ?_
  refine wp_ret ?_
  repeat (first | with_reducible refine thenR ?_ | with_reducible refine blockR ?_ | with_reducible refine scopeR ?_)
  refine retN (fn := Try.f13) (e := .ret) (.inl rfl) Try.results13 hS hR ⟨_, .cons (.tmp rfl) (.cons (.tmp rfl) (.nil)), rfl, ?_⟩
  exact ⟨rfl, (hR.sub exQ)⟩
set_option maxRecDepth 20000 in
theorem tGet_n {k : Ky} {l : List HP} {w : World} (hR : Sep (l) w) : CallR Try.prog 16 [.pointer none, vK k] w (fun v w' => v = .tuple [.int .i64 0, .bool false].toArray ∧ Sep (l) w') := by
  refine enter Try.func16 rfl Try.ntmps16 (Nat.le_of_ble_eq_true rfl) ?_; intro aa hS
  refine wp_seq_k ?_; intro K277 hK277
  refine wp_region_lit ?_
  refine sB (Bbox hS hR rfl (by rfl) (by decide) ?_); clear hS hR; intro aa ww bb3 hS hR
  refine sA hS hR (Yld.assign hS rfl) (by decide) ?_; clear hS; intro aa hS
  refine sA hS hR (Yld.assign hS rfl) (by decide) ?_; clear hS; intro aa hS
  refine wpList_nil ?_
  refine hK277 _ _ ?_
  refine wp_seq_k ?_; intro K278 hK278
  refine wp_seq_k ?_; intro K279 hK279
  refine wp_region_lit ?_
  refine sA hS hR (Yld.move hS rfl) (by decide) ?_; clear hS; intro aa hS
  refine sB (Bcall hS rfl Try.call32 (tsome_n hR) (by decide) ?_); clear hS; intro aa ww vv hS hp
  clear hR
  obtain ⟨rfl, hR⟩ := hp
  refine sA hS hR (Yld.not hS rfl) (by decide) ?_; clear hS; intro aa hS
  refine wpList_nil ?_
  refine hK279 _ _ ?_
  refine condT hS rfl ?_
  refine wp_seq_k ?_; intro K280 hK280
  refine wp_region_lit ?_
  refine sA hS hR (Yld.assign hS rfl) (by decide) ?_; clear hS; intro aa hS
  refine sA hS hR (Yld.assign hS rfl) (by decide) ?_; clear hS; intro aa hS
  refine wpList_nil ?_
  refine hK280 _ _ ?_
  refine wp_ret ?_
  repeat (first | with_reducible refine thenR ?_ | with_reducible refine blockR ?_ | with_reducible refine scopeR ?_)
  refine retN (fn := Try.f16) (e := .ret) (.inl rfl) Try.results16 hS hR ⟨_, .cons (.tmp rfl) (.cons (.tmp rfl) (.nil)), rfl, ?_⟩
  exact ⟨rfl, (hR.sub exQ)⟩
set_option maxRecDepth 20000 in
theorem tCount_n {k : Ky} {i : Int} {l : List HP} {w : World} (hR : Sep (l) w) : CallR Try.prog 23 [.pointer none, vK k, .int .i64 i] w (fun v w' => v = .int .i64 0 ∧ Sep (l) w') := by
  refine enter Try.func23 rfl Try.ntmps23 (Nat.le_of_ble_eq_true rfl) ?_; intro aa hS
  refine wp_seq_k ?_; intro K281 hK281
  refine wp_region_lit ?_
  refine sB (Bbox hS hR rfl (by rfl) (by decide) ?_); clear hS hR; intro aa ww bb4 hS hR
  refine sA hS hR (Yld.assign hS rfl) (by decide) ?_; clear hS; intro aa hS
  refine wpList_nil ?_
  refine hK281 _ _ ?_
  refine wp_seq_k ?_; intro K282 hK282
  refine wp_seq_k ?_; intro K283 hK283
  refine wp_region_lit ?_
  refine sA hS hR (Yld.move hS rfl) (by decide) ?_; clear hS; intro aa hS
  refine sB (Bcall hS rfl Try.call32 (tsome_n hR) (by decide) ?_); clear hS; intro aa ww vv hS hp
  clear hR
  obtain ⟨rfl, hR⟩ := hp
  refine sA hS hR (Yld.not hS rfl) (by decide) ?_; clear hS; intro aa hS
  refine sA hS hR (Yld.move hS rfl) (by decide) ?_; clear hS; intro aa hS
  refine sSkip hS rfl rfl rfl (by decide) ?_; clear hS; intro aa hS
  refine sSkip hS rfl rfl rfl (by decide) ?_; clear hS; intro aa hS
  refine sA hS hR (Yld.pickT hS rfl rfl) (by decide) ?_; clear hS; intro aa hS
  refine sA hS hR (Yld.move hS rfl) (by decide) ?_; clear hS; intro aa hS
  refine sSkip hS rfl rfl rfl (by decide) ?_; clear hS; intro aa hS
  refine sSkip hS rfl rfl rfl (by decide) ?_; clear hS; intro aa hS
  refine sA hS hR (Yld.pickT hS rfl rfl) (by decide) ?_; clear hS; intro aa hS
  refine wpList_nil ?_
  refine hK283 _ _ ?_
  refine condT hS rfl ?_
  refine wp_seq_k ?_; intro K284 hK284
  refine wp_region_lit ?_
  refine sA hS hR (Yld.assign hS rfl) (by decide) ?_; clear hS; intro aa hS
  refine wpList_nil ?_
  refine hK284 _ _ ?_
  refine wp_ret ?_
  repeat (first | with_reducible refine thenR ?_ | with_reducible refine blockR ?_ | with_reducible refine scopeR ?_)
  refine ret1 (fn := Try.f23) (e := .ret) (.inl rfl) Try.results23 hS hR ⟨_, (.tmp rfl), ?_⟩
  exact ⟨rfl, (hR.sub exQ)⟩
set_option maxRecDepth 20000 in
theorem tLen_n {l : List HP} {w : World} (hR : Sep (l) w) : CallR Try.prog 14 [.pointer none] w (fun v w' => v = .int .i64 0 ∧ Sep (l) w') := by
  refine enter Try.func14 rfl Try.ntmps14 (Nat.le_of_ble_eq_true rfl) ?_; intro aa hS
  refine wp_seq_k ?_; intro K285 hK285
  refine wp_region_lit ?_
  refine sA hS hR (Yld.assign hS rfl) (by decide) ?_; clear hS; intro aa hS
  refine wpList_nil ?_
  refine hK285 _ _ ?_
  refine wp_seq_k ?_; intro K286 hK286
  refine wp_region_lit ?_
  refine sA hS hR (Yld.move hS rfl) (by decide) ?_; clear hS; intro aa hS
  refine sA hS hR (Yld.build hS rfl (bld34_)) (by decide) ?_; clear hS; intro aa hS
  refine sB (Bcall hS rfl Try.call23 (tCount_n (k := (0, 0, 0, 0, 0)) (i := 0) hR) (by decide) ?_); clear hS; intro aa ww vv hS hp
  clear hR
  obtain ⟨rfl, hR⟩ := hp
  refine sA hS hR (Yld.assign hS rfl) (by decide) ?_; clear hS; intro aa hS
  refine wpList_nil ?_
  refine hK286 _ _ ?_
  refine wp_ret ?_
  repeat (first | with_reducible refine thenR ?_ | with_reducible refine blockR ?_ | with_reducible refine scopeR ?_)
  refine ret1 (fn := Try.f14) (e := .ret) (.inl rfl) Try.results14 hS hR ⟨_, (.tmp rfl), ?_⟩
  exact ⟨rfl, (hR.sub exQ)⟩
set_option maxRecDepth 20000 in
theorem tUnder_n {k : Ky} {i : Int} {l : List HP} {w : World} (hR : Sep (l) w) : CallR Try.prog 21 [.pointer none, vK k, .int .i64 i] w (fun v w' => v = .slice none 0 0 ∧ Sep (l) w') := by
  refine enter Try.func21 rfl Try.ntmps21 (Nat.le_of_ble_eq_true rfl) ?_; intro aa hS
  refine wp_seq_k ?_; intro K287 hK287
  refine wp_region_lit ?_
  refine sB (Bbox hS hR rfl (by rfl) (by decide) ?_); clear hS hR; intro aa ww bb3 hS hR
  refine sB (Bbox hS hR rfl (by rfl) (by decide) ?_); clear hS hR; intro aa ww bb4 hS hR
  refine sA hS hR (Yld.assign hS rfl) (by decide) ?_; clear hS; intro aa hS
  refine wpList_nil ?_
  refine hK287 _ _ ?_
  refine wp_seq_k ?_; intro K288 hK288
  refine wp_seq_k ?_; intro K289 hK289
  refine wp_region_lit ?_
  refine sA hS hR (Yld.load1 hS rfl Try.underlying26 rfl (by first | exact Rd.blk pkQ (by rfl) | exact Rd.rec pkQ (by intro _; rfl) (by omega) rfl | exact Rd.rec0 pkQ (by intro _; rfl) (by omega) rfl | exact Rd.flatJ pkQ (by intro _; rfl) (by omega) rfl | exact Rd.flat0 pkQ (by intro _; rfl) (by omega) rfl)) (by decide) ?_; clear hS; intro aa hS
  refine sA hS hR (Yld.loadAgg hS rfl Try.underlying34 rfl info34 (by first | exact Rds.cons (Rd.blk pkQ (by rfl)) (Rds.cons (Rd.blk pkQ (by rfl)) (Rds.cons (Rd.blk pkQ (by rfl)) (Rds.cons (Rd.blk pkQ (by rfl)) (Rds.cons (Rd.blk pkQ (by rfl)) (Rds.nil))))) | exact Rds.rec pkQ (by intro _; rfl) (by omega) | exact Rds.flat1 pkQ (by intro _; rfl) (by omega)) (by rfl)) (by decide) ?_; clear hS; intro aa hS
  refine sA hS hR (Yld.move hS rfl) (by decide) ?_; clear hS; intro aa hS
  refine sB (Bcall hS rfl Try.call23 (tCount_n (k := k) (i := i) hR) (by decide) ?_); clear hS; intro aa ww vv hS hp
  clear hR
  obtain ⟨rfl, hR⟩ := hp
  refine sA hS hR (Yld.eql hS rfl rfl) (by decide) ?_; clear hS; intro aa hS
  replace hS := hS.sayB (t := 17) true rfl (by rfl)
  refine wpList_nil ?_
  refine hK289 _ _ ?_
  refine condT hS rfl ?_
  refine wp_seq_k ?_; intro K290 hK290
  refine wp_region_lit ?_
  refine sA hS hR (Yld.assign hS rfl) (by decide) ?_; clear hS; intro aa hS
  refine wpList_nil ?_
  refine hK290 _ _ ?_
  refine wp_ret ?_
  repeat (first | with_reducible refine thenR ?_ | with_reducible refine blockR ?_ | with_reducible refine scopeR ?_)
  refine ret1 (fn := Try.f21) (e := .ret) (.inl rfl) Try.results21 hS hR ⟨_, (.tmp rfl), ?_⟩
  exact ⟨rfl, (hR.sub exQ)⟩
set_option maxRecDepth 20000 in
theorem tKeys_n {l : List HP} {w : World} (hR : Sep (l) w) : CallR Try.prog 18 [.pointer none] w (fun v w' => v = .slice none 0 0 ∧ Sep (l) w') := by
  refine enter Try.func18 rfl Try.ntmps18 (Nat.le_of_ble_eq_true rfl) ?_; intro aa hS
  refine wp_seq_k ?_; intro K291 hK291
  refine wp_region_lit ?_
  refine sA hS hR (Yld.assign hS rfl) (by decide) ?_; clear hS; intro aa hS
  refine wpList_nil ?_
  refine hK291 _ _ ?_
  refine wp_seq_k ?_; intro K292 hK292
  refine wp_region_lit ?_
  refine sA hS hR (Yld.move hS rfl) (by decide) ?_; clear hS; intro aa hS
  refine sA hS hR (Yld.build hS rfl (bld34_)) (by decide) ?_; clear hS; intro aa hS
  refine sB (Bcall hS rfl Try.call21 (tUnder_n (k := (0, 0, 0, 0, 0)) (i := 0) hR) (by decide) ?_); clear hS; intro aa ww vv hS hp
  clear hR
  obtain ⟨rfl, hR⟩ := hp
  refine sA hS hR (Yld.assign hS rfl) (by decide) ?_; clear hS; intro aa hS
  refine wpList_nil ?_
  refine hK292 _ _ ?_
  refine wp_ret ?_
  repeat (first | with_reducible refine thenR ?_ | with_reducible refine blockR ?_ | with_reducible refine scopeR ?_)
  refine ret1 (fn := Try.f18) (e := .ret) (.inl rfl) Try.results18 hS hR ⟨_, (.tmp rfl), ?_⟩
  exact ⟨rfl, (hR.sub exQ)⟩
set_option maxRecDepth 20000 in
theorem tSteps_n {k : Ky} {l : List HP} {w : World} (hR : Sep (l) w) : CallR Try.prog 31 [.pointer none, vK k] w (fun v w' => v = .int .i64 0 ∧ Sep (l) w') := by
  refine enter Try.func31 rfl Try.ntmps31 (Nat.le_of_ble_eq_true rfl) ?_; intro aa hS
  refine wp_seq_k ?_; intro K293 hK293
  refine wp_region_lit ?_
  refine sB (Bbox hS hR rfl (by rfl) (by decide) ?_); clear hS hR; intro aa ww bb3 hS hR
  refine sA hS hR (Yld.assign hS rfl) (by decide) ?_; clear hS; intro aa hS
  refine wpList_nil ?_
  refine hK293 _ _ ?_
  refine wp_seq_k ?_; intro K294 hK294
  refine wp_seq_k ?_; intro K295 hK295
  refine wp_region_lit ?_
  refine sA hS hR (Yld.move hS rfl) (by decide) ?_; clear hS; intro aa hS
  refine sB (Bcall hS rfl Try.call32 (tsome_n hR) (by decide) ?_); clear hS; intro aa ww vv hS hp
  clear hR
  obtain ⟨rfl, hR⟩ := hp
  refine sA hS hR (Yld.not hS rfl) (by decide) ?_; clear hS; intro aa hS
  refine wpList_nil ?_
  refine hK295 _ _ ?_
  refine condT hS rfl ?_
  refine wp_seq_k ?_; intro K296 hK296
  refine wp_region_lit ?_
  refine sA hS hR (Yld.assign hS rfl) (by decide) ?_; clear hS; intro aa hS
  refine wpList_nil ?_
  refine hK296 _ _ ?_
  refine wp_ret ?_
  repeat (first | with_reducible refine thenR ?_ | with_reducible refine blockR ?_ | with_reducible refine scopeR ?_)
  refine ret1 (fn := Try.f31) (e := .ret) (.inl rfl) Try.results31 hS hR ⟨_, (.tmp rfl), ?_⟩
  exact ⟨rfl, (hR.sub exQ)⟩
set_option maxRecDepth 20000 in
theorem tNodes_n {l : List HP} {w : World} (hR : Sep (l) w) : CallR Try.prog 19 [.pointer none] w (fun v w' => v = .int .i64 0 ∧ Sep (l) w') := by
  refine enter Try.func19 rfl Try.ntmps19 (Nat.le_of_ble_eq_true rfl) ?_; intro aa hS
  refine wp_seq_k ?_; intro K297 hK297
  refine wp_region_lit ?_
  refine sA hS hR (Yld.assign hS rfl) (by decide) ?_; clear hS; intro aa hS
  refine wpList_nil ?_
  refine hK297 _ _ ?_
  refine wp_seq_k ?_; intro K298 hK298
  refine wp_seq_k ?_; intro K299 hK299
  refine wp_region_lit ?_
  refine sA hS hR (Yld.move hS rfl) (by decide) ?_; clear hS; intro aa hS
  refine sB (Bcall hS rfl Try.call32 (tsome_n hR) (by decide) ?_); clear hS; intro aa ww vv hS hp
  clear hR
  obtain ⟨rfl, hR⟩ := hp
  refine sA hS hR (Yld.not hS rfl) (by decide) ?_; clear hS; intro aa hS
  refine wpList_nil ?_
  refine hK299 _ _ ?_
  refine condT hS rfl ?_
  refine wp_seq_k ?_; intro K300 hK300
  refine wp_region_lit ?_
  refine sA hS hR (Yld.assign hS rfl) (by decide) ?_; clear hS; intro aa hS
  refine wpList_nil ?_
  refine hK300 _ _ ?_
  refine wp_ret ?_
  repeat (first | with_reducible refine thenR ?_ | with_reducible refine blockR ?_ | with_reducible refine scopeR ?_)
  refine ret1 (fn := Try.f19) (e := .ret) (.inl rfl) Try.results19 hS hR ⟨_, (.tmp rfl), ?_⟩
  exact ⟨rfl, (hR.sub exQ)⟩
set_option maxRecDepth 20000 in
theorem tsome_z {z : Nat} {l : List HP} {w : World} (hR : Sep (blk z [.slice none 0 0, .slice none 0 0, .int .i64 0] 69 :: l) w) : CallR Try.prog 32 [.pointer (some ⟨z, 0, none⟩)] w (fun v w' => v = .bool false ∧ Sep (blk z [.slice none 0 0, .slice none 0 0, .int .i64 0] 69 :: l) w') := by
  refine enter Try.func32 rfl Try.ntmps32 (Nat.le_of_ble_eq_true rfl) ?_; intro aa hS
  refine wp_seq_k ?_; intro K301 hK301
  refine wp_region_lit ?_
  refine sA hS hR (Yld.assign hS rfl) (by decide) ?_; clear hS; intro aa hS
  refine wpList_nil ?_
  refine hK301 _ _ ?_
  refine wp_seq_k ?_; intro K302 hK302
  refine wp_region_lit ?_
  refine sA hS hR (Yld.move hS rfl) (by decide) ?_; clear hS; intro aa hS
  refine sA hS hR (Yld.neqNil hS rfl rfl Try.underlying26) (by decide) ?_; clear hS; intro aa hS
  replace hS := hS.sayB (t := 4) true rfl (by rfl)
  refine sA hS hR (Yld.move hS rfl) (by decide) ?_; clear hS; intro aa hS
  refine sAg hS hR rfl rfl (Yld.move hS rfl) (by decide) ?_; clear hS; intro aa hS
  refine sAg hS hR rfl rfl (Yld.nilCheck hS rfl) (by decide) ?_; clear hS; intro aa hS
  refine sAg hS hR rfl rfl (Yld.fieldAddr hS rfl 0 Try.underlying69 rfl rfl info67 (by decide)) (by decide) ?_; clear hS; intro aa hS
  refine sAg hS hR rfl rfl (Yld.load1 hS rfl Try.underlying67 rfl (by first | exact Rd.blk pkQ (by rfl) | exact Rd.rec pkQ (by intro _; rfl) (by omega) rfl | exact Rd.rec0 pkQ (by intro _; rfl) (by omega) rfl | exact Rd.flatJ pkQ (by intro _; rfl) (by omega) rfl | exact Rd.flat0 pkQ (by intro _; rfl) (by omega) rfl)) (by decide) ?_; clear hS; intro aa hS
  refine sAg hS hR rfl rfl (Yld.len hS rfl Try.underlying67) (by decide) ?_; clear hS; intro aa hS
  refine sAg hS hR rfl rfl (Yld.gtr hS rfl rfl) (by decide) ?_; clear hS; intro aa hS
  replace hS := hS.sayB (t := 11) false rfl (by rfl)
  refine sA hS hR (Yld.pickT hS rfl rfl) (by decide) ?_; clear hS; intro aa hS
  refine sA hS hR (Yld.assign hS rfl) (by decide) ?_; clear hS; intro aa hS
  refine wpList_nil ?_
  refine hK302 _ _ ?_
  refine wp_ret ?_
  repeat (first | with_reducible refine thenR ?_ | with_reducible refine blockR ?_ | with_reducible refine scopeR ?_)
  refine ret1 (fn := Try.f32) (e := .ret) (.inl rfl) Try.results32 hS hR ⟨_, (.tmp rfl), ?_⟩
  exact ⟨rfl, (hR.sub exQ)⟩
set_option maxRecDepth 20000 in
theorem tPut_z {z : Nat} {k : Ky} {i : Int} {l : List HP} {w : World} (hR : Sep (blk z [.slice none 0 0, .slice none 0 0, .int .i64 0] 69 :: l) w) : CallR Try.prog 12 [.pointer (some ⟨z, 0, none⟩), vK k, .int .i64 i] w (fun v w' => v = .int .i64 1 ∧ Sep (blk z [.slice none 0 0, .slice none 0 0, .int .i64 0] 69 :: l) w') := by
  refine enter Try.func12 rfl Try.ntmps12 (Nat.le_of_ble_eq_true rfl) ?_; intro aa hS
  refine wp_seq_k ?_; intro K303 hK303
  refine wp_region_lit ?_
  refine sB (Bbox hS hR rfl (by rfl) (by decide) ?_); clear hS hR; intro aa ww bb3 hS hR
  refine sB (Bbox hS hR rfl (by rfl) (by decide) ?_); clear hS hR; intro aa ww bb4 hS hR
  refine sA hS hR (Yld.assign hS rfl) (by decide) ?_; clear hS; intro aa hS
  refine wpList_nil ?_
  refine hK303 _ _ ?_
  refine wp_seq_k ?_; intro K304 hK304
  refine wp_seq_k ?_; intro K305 hK305
  refine wp_region_lit ?_
  refine sA hS hR (Yld.load1 hS rfl Try.underlying26 rfl (by first | exact Rd.blk pkQ (by rfl) | exact Rd.rec pkQ (by intro _; rfl) (by omega) rfl | exact Rd.rec0 pkQ (by intro _; rfl) (by omega) rfl | exact Rd.flatJ pkQ (by intro _; rfl) (by omega) rfl | exact Rd.flat0 pkQ (by intro _; rfl) (by omega) rfl)) (by decide) ?_; clear hS; intro aa hS
  refine sB (Bcall hS rfl Try.call32 (tsome_z (hR.pk (r := blk z _ _) pkQ)) (by decide) ?_); clear hS; intro aa ww vv hS hp
  clear hR
  obtain ⟨rfl, hR⟩ := hp
  refine sA hS hR (Yld.not hS rfl) (by decide) ?_; clear hS; intro aa hS
  refine wpList_nil ?_
  refine hK305 _ _ ?_
  refine condT hS rfl ?_
  refine wp_seq_k ?_; intro K306 hK306
  refine wp_region_lit ?_
  refine sA hS hR (Yld.assign hS rfl) (by decide) ?_; clear hS; intro aa hS
  refine wpList_nil ?_
  refine hK306 _ _ ?_
  refine wp_ret ?_
  repeat (first | with_reducible refine thenR ?_ | with_reducible refine blockR ?_ | with_reducible refine scopeR ?_)
  refine ret1 (fn := Try.f12) (e := .ret) (.inl rfl) Try.results12 hS hR ⟨_, (.tmp rfl), ?_⟩
  exact ⟨rfl, (hR.sub exQ)⟩
set_option maxRecDepth 20000 in
theorem tOut_z {z : Nat} {k : Ky} {l : List HP} {w : World} (hR : Sep (blk z [.slice none 0 0, .slice none 0 0, .int .i64 0] 69 :: l) w) : CallR Try.prog 13 [.pointer (some ⟨z, 0, none⟩), vK k] w (fun v w' => v = .tuple [.int .i64 0, .int .i64 1].toArray ∧ Sep (blk z [.slice none 0 0, .slice none 0 0, .int .i64 0] 69 :: l) w') := by
  refine enter Try.func13 rfl Try.ntmps13 (Nat.le_of_ble_eq_true rfl) ?_; intro aa hS
  refine wp_seq_k ?_; intro K307 hK307
  refine wp_region_lit ?_
  refine sB (Bbox hS hR rfl (by rfl) (by decide) ?_); clear hS hR; intro aa ww bb2 hS hR
  refine sB (Bbox hS hR rfl (by rfl) (by decide) ?_); clear hS hR; intro aa ww bb3 hS hR
  refine sA hS hR (Yld.assign hS rfl) (by decide) ?_; clear hS; intro aa hS
  refine sA hS hR (Yld.assign hS rfl) (by decide) ?_; clear hS; intro aa hS
  refine wpList_nil ?_
  refine hK307 _ _ ?_
  refine wp_seq_k ?_; intro K308 hK308
  refine wp_seq_k ?_; intro K309 hK309
  refine wp_region_lit ?_
  refine sA hS hR (Yld.load1 hS rfl Try.underlying26 rfl (by first | exact Rd.blk pkQ (by rfl) | exact Rd.rec pkQ (by intro _; rfl) (by omega) rfl | exact Rd.rec0 pkQ (by intro _; rfl) (by omega) rfl | exact Rd.flatJ pkQ (by intro _; rfl) (by omega) rfl | exact Rd.flat0 pkQ (by intro _; rfl) (by omega) rfl)) (by decide) ?_; clear hS; intro aa hS
  refine sB (Bcall hS rfl Try.call32 (tsome_z (hR.pk (r := blk z _ _) pkQ)) (by decide) ?_); clear hS; intro aa ww vv hS hp
  clear hR
  obtain ⟨rfl, hR⟩ := hp
  refine sA hS hR (Yld.not hS rfl) (by decide) ?_; clear hS; intro aa hS
  refine wpList_nil ?_
  refine hK309 _ _ ?_
  refine condT hS rfl ?_
  refine wp_seq_k ?_; intro K310 hK310
  refine wp_region_lit ?_
  refine sA hS hR (Yld.assign hS rfl) (by decide) ?_; clear hS; intro aa hS
  refine sA hS hR (Yld.assign hS rfl) (by decide) ?_; clear hS; intro aa hS
  refine wpList_nil ?_
  refine hK310 _ _ ?_
  refine wp_ret ?_
  repeat (first | with_reducible refine thenR ?_ | with_reducible refine blockR ?_ | with_reducible refine scopeR ?_)
  refine retN (fn := Try.f13) (e := .ret) (.inl rfl) Try.results13 hS hR ⟨_, .cons (.tmp rfl) (.cons (.tmp rfl) (.nil)), rfl, ?_⟩
  exact ⟨rfl, (hR.sub exQ)⟩
set_option maxRecDepth 20000 in
theorem tGet_z {z : Nat} {k : Ky} {l : List HP} {w : World} (hR : Sep (blk z [.slice none 0 0, .slice none 0 0, .int .i64 0] 69 :: l) w) : CallR Try.prog 16 [.pointer (some ⟨z, 0, none⟩), vK k] w (fun v w' => v = .tuple [.int .i64 0, .bool false].toArray ∧ Sep (blk z [.slice none 0 0, .slice none 0 0, .int .i64 0] 69 :: l) w') := by
  refine enter Try.func16 rfl Try.ntmps16 (Nat.le_of_ble_eq_true rfl) ?_; intro aa hS
  refine wp_seq_k ?_; intro K311 hK311
  refine wp_region_lit ?_
  refine sB (Bbox hS hR rfl (by rfl) (by decide) ?_); clear hS hR; intro aa ww bb3 hS hR
  refine sA hS hR (Yld.assign hS rfl) (by decide) ?_; clear hS; intro aa hS
  refine sA hS hR (Yld.assign hS rfl) (by decide) ?_; clear hS; intro aa hS
  refine wpList_nil ?_
  refine hK311 _ _ ?_
  refine wp_seq_k ?_; intro K312 hK312
  refine wp_seq_k ?_; intro K313 hK313
  refine wp_region_lit ?_
  refine sA hS hR (Yld.move hS rfl) (by decide) ?_; clear hS; intro aa hS
  refine sB (Bcall hS rfl Try.call32 (tsome_z (hR.pk (r := blk z _ _) pkQ)) (by decide) ?_); clear hS; intro aa ww vv hS hp
  clear hR
  obtain ⟨rfl, hR⟩ := hp
  refine sA hS hR (Yld.not hS rfl) (by decide) ?_; clear hS; intro aa hS
  refine wpList_nil ?_
  refine hK313 _ _ ?_
  refine condT hS rfl ?_
  refine wp_seq_k ?_; intro K314 hK314
  refine wp_region_lit ?_
  refine sA hS hR (Yld.assign hS rfl) (by decide) ?_; clear hS; intro aa hS
  refine sA hS hR (Yld.assign hS rfl) (by decide) ?_; clear hS; intro aa hS
  refine wpList_nil ?_
  refine hK314 _ _ ?_
  refine wp_ret ?_
  repeat (first | with_reducible refine thenR ?_ | with_reducible refine blockR ?_ | with_reducible refine scopeR ?_)
  refine retN (fn := Try.f16) (e := .ret) (.inl rfl) Try.results16 hS hR ⟨_, .cons (.tmp rfl) (.cons (.tmp rfl) (.nil)), rfl, ?_⟩
  exact ⟨rfl, (hR.sub exQ)⟩
set_option maxRecDepth 20000 in
theorem tCount_z {z : Nat} {k : Ky} {i : Int} {l : List HP} {w : World} (hR : Sep (blk z [.slice none 0 0, .slice none 0 0, .int .i64 0] 69 :: l) w) : CallR Try.prog 23 [.pointer (some ⟨z, 0, none⟩), vK k, .int .i64 i] w (fun v w' => v = .int .i64 0 ∧ Sep (blk z [.slice none 0 0, .slice none 0 0, .int .i64 0] 69 :: l) w') := by
  refine enter Try.func23 rfl Try.ntmps23 (Nat.le_of_ble_eq_true rfl) ?_; intro aa hS
  refine wp_seq_k ?_; intro K315 hK315
  refine wp_region_lit ?_
  refine sB (Bbox hS hR rfl (by rfl) (by decide) ?_); clear hS hR; intro aa ww bb4 hS hR
  refine sA hS hR (Yld.assign hS rfl) (by decide) ?_; clear hS; intro aa hS
  refine wpList_nil ?_
  refine hK315 _ _ ?_
  refine wp_seq_k ?_; intro K316 hK316
  refine wp_seq_k ?_; intro K317 hK317
  refine wp_region_lit ?_
  refine sA hS hR (Yld.move hS rfl) (by decide) ?_; clear hS; intro aa hS
  refine sB (Bcall hS rfl Try.call32 (tsome_z (hR.pk (r := blk z _ _) pkQ)) (by decide) ?_); clear hS; intro aa ww vv hS hp
  clear hR
  obtain ⟨rfl, hR⟩ := hp
  refine sA hS hR (Yld.not hS rfl) (by decide) ?_; clear hS; intro aa hS
  refine sA hS hR (Yld.move hS rfl) (by decide) ?_; clear hS; intro aa hS
  refine sSkip hS rfl rfl rfl (by decide) ?_; clear hS; intro aa hS
  refine sSkip hS rfl rfl rfl (by decide) ?_; clear hS; intro aa hS
  refine sA hS hR (Yld.pickT hS rfl rfl) (by decide) ?_; clear hS; intro aa hS
  refine sA hS hR (Yld.move hS rfl) (by decide) ?_; clear hS; intro aa hS
  refine sSkip hS rfl rfl rfl (by decide) ?_; clear hS; intro aa hS
  refine sSkip hS rfl rfl rfl (by decide) ?_; clear hS; intro aa hS
  refine sA hS hR (Yld.pickT hS rfl rfl) (by decide) ?_; clear hS; intro aa hS
  refine wpList_nil ?_
  refine hK317 _ _ ?_
  refine condT hS rfl ?_
  refine wp_seq_k ?_; intro K318 hK318
  refine wp_region_lit ?_
  refine sA hS hR (Yld.assign hS rfl) (by decide) ?_; clear hS; intro aa hS
  refine wpList_nil ?_
  refine hK318 _ _ ?_
  refine wp_ret ?_
  repeat (first | with_reducible refine thenR ?_ | with_reducible refine blockR ?_ | with_reducible refine scopeR ?_)
  refine ret1 (fn := Try.f23) (e := .ret) (.inl rfl) Try.results23 hS hR ⟨_, (.tmp rfl), ?_⟩
  exact ⟨rfl, (hR.sub exQ)⟩
set_option maxRecDepth 20000 in
theorem tLen_z {z : Nat} {l : List HP} {w : World} (hR : Sep (blk z [.slice none 0 0, .slice none 0 0, .int .i64 0] 69 :: l) w) : CallR Try.prog 14 [.pointer (some ⟨z, 0, none⟩)] w (fun v w' => v = .int .i64 0 ∧ Sep (blk z [.slice none 0 0, .slice none 0 0, .int .i64 0] 69 :: l) w') := by
  refine enter Try.func14 rfl Try.ntmps14 (Nat.le_of_ble_eq_true rfl) ?_; intro aa hS
  refine wp_seq_k ?_; intro K319 hK319
  refine wp_region_lit ?_
  refine sA hS hR (Yld.assign hS rfl) (by decide) ?_; clear hS; intro aa hS
  refine wpList_nil ?_
  refine hK319 _ _ ?_
  refine wp_seq_k ?_; intro K320 hK320
  refine wp_region_lit ?_
  refine sA hS hR (Yld.move hS rfl) (by decide) ?_; clear hS; intro aa hS
  refine sA hS hR (Yld.build hS rfl (bld34_)) (by decide) ?_; clear hS; intro aa hS
  refine sB (Bcall hS rfl Try.call23 (tCount_z (k := (0, 0, 0, 0, 0)) (i := 0) (hR.pk (r := blk z _ _) pkQ)) (by decide) ?_); clear hS; intro aa ww vv hS hp
  clear hR
  obtain ⟨rfl, hR⟩ := hp
  refine sA hS hR (Yld.assign hS rfl) (by decide) ?_; clear hS; intro aa hS
  refine wpList_nil ?_
  refine hK320 _ _ ?_
  refine wp_ret ?_
  repeat (first | with_reducible refine thenR ?_ | with_reducible refine blockR ?_ | with_reducible refine scopeR ?_)
  refine ret1 (fn := Try.f14) (e := .ret) (.inl rfl) Try.results14 hS hR ⟨_, (.tmp rfl), ?_⟩
  exact ⟨rfl, (hR.sub exQ)⟩
set_option maxRecDepth 20000 in
theorem tUnder_z {z : Nat} {k : Ky} {i : Int} {l : List HP} {w : World} (hR : Sep (blk z [.slice none 0 0, .slice none 0 0, .int .i64 0] 69 :: l) w) : CallR Try.prog 21 [.pointer (some ⟨z, 0, none⟩), vK k, .int .i64 i] w (fun v w' => v = .slice none 0 0 ∧ Sep (blk z [.slice none 0 0, .slice none 0 0, .int .i64 0] 69 :: l) w') := by
  refine enter Try.func21 rfl Try.ntmps21 (Nat.le_of_ble_eq_true rfl) ?_; intro aa hS
  refine wp_seq_k ?_; intro K321 hK321
  refine wp_region_lit ?_
  refine sB (Bbox hS hR rfl (by rfl) (by decide) ?_); clear hS hR; intro aa ww bb3 hS hR
  refine sB (Bbox hS hR rfl (by rfl) (by decide) ?_); clear hS hR; intro aa ww bb4 hS hR
  refine sA hS hR (Yld.assign hS rfl) (by decide) ?_; clear hS; intro aa hS
  refine wpList_nil ?_
  refine hK321 _ _ ?_
  refine wp_seq_k ?_; intro K322 hK322
  refine wp_seq_k ?_; intro K323 hK323
  refine wp_region_lit ?_
  refine sA hS hR (Yld.load1 hS rfl Try.underlying26 rfl (by first | exact Rd.blk pkQ (by rfl) | exact Rd.rec pkQ (by intro _; rfl) (by omega) rfl | exact Rd.rec0 pkQ (by intro _; rfl) (by omega) rfl | exact Rd.flatJ pkQ (by intro _; rfl) (by omega) rfl | exact Rd.flat0 pkQ (by intro _; rfl) (by omega) rfl)) (by decide) ?_; clear hS; intro aa hS
  refine sA hS hR (Yld.loadAgg hS rfl Try.underlying34 rfl info34 (by first | exact Rds.cons (Rd.blk pkQ (by rfl)) (Rds.cons (Rd.blk pkQ (by rfl)) (Rds.cons (Rd.blk pkQ (by rfl)) (Rds.cons (Rd.blk pkQ (by rfl)) (Rds.cons (Rd.blk pkQ (by rfl)) (Rds.nil))))) | exact Rds.rec pkQ (by intro _; rfl) (by omega) | exact Rds.flat1 pkQ (by intro _; rfl) (by omega)) (by rfl)) (by decide) ?_; clear hS; intro aa hS
  refine sA hS hR (Yld.move hS rfl) (by decide) ?_; clear hS; intro aa hS
  refine sB (Bcall hS rfl Try.call23 (tCount_z (k := k) (i := i) (hR.pk (r := blk z _ _) pkQ)) (by decide) ?_); clear hS; intro aa ww vv hS hp
  clear hR
  obtain ⟨rfl, hR⟩ := hp
  refine sA hS hR (Yld.eql hS rfl rfl) (by decide) ?_; clear hS; intro aa hS
  replace hS := hS.sayB (t := 17) true rfl (by rfl)
  refine wpList_nil ?_
  refine hK323 _ _ ?_
  refine condT hS rfl ?_
  refine wp_seq_k ?_; intro K324 hK324
  refine wp_region_lit ?_
  refine sA hS hR (Yld.assign hS rfl) (by decide) ?_; clear hS; intro aa hS
  refine wpList_nil ?_
  refine hK324 _ _ ?_
  refine wp_ret ?_
  repeat (first | with_reducible refine thenR ?_ | with_reducible refine blockR ?_ | with_reducible refine scopeR ?_)
  refine ret1 (fn := Try.f21) (e := .ret) (.inl rfl) Try.results21 hS hR ⟨_, (.tmp rfl), ?_⟩
  exact ⟨rfl, (hR.sub exQ)⟩
set_option maxRecDepth 20000 in
theorem tKeys_z {z : Nat} {l : List HP} {w : World} (hR : Sep (blk z [.slice none 0 0, .slice none 0 0, .int .i64 0] 69 :: l) w) : CallR Try.prog 18 [.pointer (some ⟨z, 0, none⟩)] w (fun v w' => v = .slice none 0 0 ∧ Sep (blk z [.slice none 0 0, .slice none 0 0, .int .i64 0] 69 :: l) w') := by
  refine enter Try.func18 rfl Try.ntmps18 (Nat.le_of_ble_eq_true rfl) ?_; intro aa hS
  refine wp_seq_k ?_; intro K325 hK325
  refine wp_region_lit ?_
  refine sA hS hR (Yld.assign hS rfl) (by decide) ?_; clear hS; intro aa hS
  refine wpList_nil ?_
  refine hK325 _ _ ?_
  refine wp_seq_k ?_; intro K326 hK326
  refine wp_region_lit ?_
  refine sA hS hR (Yld.move hS rfl) (by decide) ?_; clear hS; intro aa hS
  refine sA hS hR (Yld.build hS rfl (bld34_)) (by decide) ?_; clear hS; intro aa hS
  refine sB (Bcall hS rfl Try.call21 (tUnder_z (k := (0, 0, 0, 0, 0)) (i := 0) (hR.pk (r := blk z _ _) pkQ)) (by decide) ?_); clear hS; intro aa ww vv hS hp
  clear hR
  obtain ⟨rfl, hR⟩ := hp
  refine sA hS hR (Yld.assign hS rfl) (by decide) ?_; clear hS; intro aa hS
  refine wpList_nil ?_
  refine hK326 _ _ ?_
  refine wp_ret ?_
  repeat (first | with_reducible refine thenR ?_ | with_reducible refine blockR ?_ | with_reducible refine scopeR ?_)
  refine ret1 (fn := Try.f18) (e := .ret) (.inl rfl) Try.results18 hS hR ⟨_, (.tmp rfl), ?_⟩
  exact ⟨rfl, (hR.sub exQ)⟩
set_option maxRecDepth 20000 in
theorem tSteps_z {z : Nat} {k : Ky} {l : List HP} {w : World} (hR : Sep (blk z [.slice none 0 0, .slice none 0 0, .int .i64 0] 69 :: l) w) : CallR Try.prog 31 [.pointer (some ⟨z, 0, none⟩), vK k] w (fun v w' => v = .int .i64 0 ∧ Sep (blk z [.slice none 0 0, .slice none 0 0, .int .i64 0] 69 :: l) w') := by
  refine enter Try.func31 rfl Try.ntmps31 (Nat.le_of_ble_eq_true rfl) ?_; intro aa hS
  refine wp_seq_k ?_; intro K327 hK327
  refine wp_region_lit ?_
  refine sB (Bbox hS hR rfl (by rfl) (by decide) ?_); clear hS hR; intro aa ww bb3 hS hR
  refine sA hS hR (Yld.assign hS rfl) (by decide) ?_; clear hS; intro aa hS
  refine wpList_nil ?_
  refine hK327 _ _ ?_
  refine wp_seq_k ?_; intro K328 hK328
  refine wp_seq_k ?_; intro K329 hK329
  refine wp_region_lit ?_
  refine sA hS hR (Yld.move hS rfl) (by decide) ?_; clear hS; intro aa hS
  refine sB (Bcall hS rfl Try.call32 (tsome_z (hR.pk (r := blk z _ _) pkQ)) (by decide) ?_); clear hS; intro aa ww vv hS hp
  clear hR
  obtain ⟨rfl, hR⟩ := hp
  refine sA hS hR (Yld.not hS rfl) (by decide) ?_; clear hS; intro aa hS
  refine wpList_nil ?_
  refine hK329 _ _ ?_
  refine condT hS rfl ?_
  refine wp_seq_k ?_; intro K330 hK330
  refine wp_region_lit ?_
  refine sA hS hR (Yld.assign hS rfl) (by decide) ?_; clear hS; intro aa hS
  refine wpList_nil ?_
  refine hK330 _ _ ?_
  refine wp_ret ?_
  repeat (first | with_reducible refine thenR ?_ | with_reducible refine blockR ?_ | with_reducible refine scopeR ?_)
  refine ret1 (fn := Try.f31) (e := .ret) (.inl rfl) Try.results31 hS hR ⟨_, (.tmp rfl), ?_⟩
  exact ⟨rfl, (hR.sub exQ)⟩
set_option maxRecDepth 20000 in
theorem tNodes_z {z : Nat} {l : List HP} {w : World} (hR : Sep (blk z [.slice none 0 0, .slice none 0 0, .int .i64 0] 69 :: l) w) : CallR Try.prog 19 [.pointer (some ⟨z, 0, none⟩)] w (fun v w' => v = .int .i64 0 ∧ Sep (blk z [.slice none 0 0, .slice none 0 0, .int .i64 0] 69 :: l) w') := by
  refine enter Try.func19 rfl Try.ntmps19 (Nat.le_of_ble_eq_true rfl) ?_; intro aa hS
  refine wp_seq_k ?_; intro K331 hK331
  refine wp_region_lit ?_
  refine sA hS hR (Yld.assign hS rfl) (by decide) ?_; clear hS; intro aa hS
  refine wpList_nil ?_
  refine hK331 _ _ ?_
  refine wp_seq_k ?_; intro K332 hK332
  refine wp_seq_k ?_; intro K333 hK333
  refine wp_region_lit ?_
  refine sA hS hR (Yld.move hS rfl) (by decide) ?_; clear hS; intro aa hS
  refine sB (Bcall hS rfl Try.call32 (tsome_z (hR.pk (r := blk z _ _) pkQ)) (by decide) ?_); clear hS; intro aa ww vv hS hp
  clear hR
  obtain ⟨rfl, hR⟩ := hp
  refine sA hS hR (Yld.not hS rfl) (by decide) ?_; clear hS; intro aa hS
  refine wpList_nil ?_
  refine hK333 _ _ ?_
  refine condT hS rfl ?_
  refine wp_seq_k ?_; intro K334 hK334
  refine wp_region_lit ?_
  refine sA hS hR (Yld.assign hS rfl) (by decide) ?_; clear hS; intro aa hS
  refine wpList_nil ?_
  refine hK334 _ _ ?_
  refine wp_ret ?_
  repeat (first | with_reducible refine thenR ?_ | with_reducible refine blockR ?_ | with_reducible refine scopeR ?_)
  refine ret1 (fn := Try.f19) (e := .ret) (.inl rfl) Try.results19 hS hR ⟨_, (.tmp rfl), ?_⟩
  exact ⟨rfl, (hR.sub exQ)⟩
end Go.Proofs.Ytmcfmhiadlkglaa.Sx
