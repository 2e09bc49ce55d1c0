/-
  
-/
import Derived.Test.YtojeibjlkbffcaaLtC
namespace Go.Proofs.Ytojeibjlkbffcaa.Sx
open Go
set_option linter.unusedVariables false
set_option linter.unusedSimpArgs false



set_option maxRecDepth 20000 in
theorem lrsome_n {l : List HP} {w : World} (hR : Sep (l) w) : CallR Try.prog 29 [.pointer none] w (fun v w' => v = .bool false ∧ Sep (l) w') := by
  refine enter Try.func29 rfl Try.ntmps29 (Nat.le_of_ble_eq_true rfl) ?_; intro aa hS
  refine wp_seq_k ?_; intro K531 hK531
  refine wp_region_lit ?_
  refine sA hS hR (Yld.assign hS rfl) (by decide) ?_; clear hS; intro aa hS
  refine wpList_nil ?_
  refine hK531 _ _ ?_
  refine wp_seq_k ?_; intro K532 hK532
  refine wp_region_lit ?_
  refine sA hS hR (Yld.move hS rfl) (by decide) ?_; clear hS; intro aa hS
  refine sA hS hR (Yld.neqNil hS rfl rfl Try.underlying23) (by decide) ?_; clear hS; intro aa hS
  replace hS := hS.sayB (t := 4) false rfl (by rfl)
  refine sA hS hR (Yld.move hS rfl) (by decide) ?_; clear hS; intro aa hS
  refine sSkip hS rfl rfl rfl (by decide) ?_; clear hS; intro aa hS
  refine sSkip hS rfl rfl rfl (by decide) ?_; clear hS; intro aa hS
  refine sSkip hS rfl rfl rfl (by decide) ?_; clear hS; intro aa hS
  refine sSkip hS rfl rfl rfl (by decide) ?_; clear hS; intro aa hS
  refine sSkip hS rfl rfl rfl (by decide) ?_; clear hS; intro aa hS
  refine sA hS hR (Yld.pickF hS rfl rfl) (by decide) ?_; clear hS; intro aa hS
  refine sA hS hR (Yld.assign hS rfl) (by decide) ?_; clear hS; intro aa hS
  refine wpList_nil ?_
  refine hK532 _ _ ?_
  refine wp_ret ?_
  repeat (first | with_reducible refine thenR ?_ | with_reducible refine blockR ?_ | with_reducible refine scopeR ?_)
  refine ret1 (fn := Try.f29) (e := .ret) (.inl rfl) Try.results29 hS hR ⟨_, (.tmp rfl), ?_⟩
  exact ⟨rfl, (hR.sub (by repeat (first | with_reducible exact Ex.refl | (with_reducible apply Ex.take; · repeat (first | with_reducible exact Pk.here | with_reducible apply Pk.there)) | with_reducible apply Ex.drop)))⟩
set_option maxRecDepth 20000 in
theorem lrSee_n {i : Int} {l : List HP} {w : World} (hR : Sep (l) w) : CallR Try.prog 19 [.pointer none, .int .i64 i] w (fun v w' => v = .tuple [.int .i64 0, .int .i64 1].toArray ∧ Sep (l) w') := by
  refine enter Try.func19 rfl Try.ntmps19 (Nat.le_of_ble_eq_true rfl) ?_; intro aa hS
  refine wp_seq_k ?_; intro K533 hK533
  refine wp_region_lit ?_
  refine sA hS hR (Yld.assign hS rfl) (by decide) ?_; clear hS; intro aa hS
  refine sA hS hR (Yld.assign hS rfl) (by decide) ?_; clear hS; intro aa hS
  refine wpList_nil ?_
  refine hK533 _ _ ?_
  refine wp_seq_k ?_; intro K534 hK534
  refine wp_block ?_
  refine wp_seq_k ?_; intro K535 hK535
  refine wp_region_lit ?_
  refine sA hS hR (Yld.move hS rfl) (by decide) ?_; clear hS; intro aa hS
  refine sB (Bcall hS rfl Try.call29 (lrsome_n hR) (by decide) ?_); clear hS; intro aa ww vv hS hp
  clear hR
  obtain ⟨rfl, hR⟩ := hp
  refine sA hS hR (Yld.not hS rfl) (by decide) ?_; clear hS; intro aa hS
  refine sA hS hR (Yld.assign hS rfl) (by decide) ?_; clear hS; intro aa hS
  refine wpList_nil ?_
  refine hK535 _ _ ?_
  refine condT hS rfl ?_
  refine wp_seq_k ?_; intro K536 hK536
  refine wp_region_lit ?_
  refine sA hS hR (Yld.assign hS rfl) (by decide) ?_; clear hS; intro aa hS
  refine sA hS hR (Yld.assign hS rfl) (by decide) ?_; clear hS; intro aa hS
  refine wpList_nil ?_
  refine hK536 _ _ ?_
  refine wp_ret ?_
  repeat (first | with_reducible refine thenR ?_ | with_reducible refine blockR ?_ | with_reducible refine scopeR ?_)
  refine retN (fn := Try.f19) (e := .ret) (.inl rfl) Try.results19 hS hR ⟨_, .cons (.tmp rfl) (.cons (.tmp rfl) (.nil)), rfl, ?_⟩
  exact ⟨rfl, (hR.sub (by repeat (first | with_reducible exact Ex.refl | (with_reducible apply Ex.take; · repeat (first | with_reducible exact Pk.here | with_reducible apply Pk.there)) | with_reducible apply Ex.drop)))⟩
set_option maxRecDepth 20000 in
theorem lrOut_n {i : Int} {l : List HP} {w : World} (hR : Sep (l) w) : CallR Try.prog 13 [.pointer none, .int .i64 i] w (fun v w' => v = .int .i64 1 ∧ Sep (l) w') := by
  refine enter Try.func13 rfl Try.ntmps13 (Nat.le_of_ble_eq_true rfl) ?_; intro aa hS
  refine wp_seq_k ?_; intro K537 hK537
  refine wp_region_lit ?_
  refine sA hS hR (Yld.assign hS rfl) (by decide) ?_; clear hS; intro aa hS
  refine wpList_nil ?_
  refine hK537 _ _ ?_
  refine wp_seq_k ?_; intro K538 hK538
  refine wp_block ?_
  refine wp_seq_k ?_; intro K539 hK539
  refine wp_region_lit ?_
  refine sA hS hR (Yld.move hS rfl) (by decide) ?_; clear hS; intro aa hS
  refine sB (Bcall hS rfl Try.call29 (lrsome_n hR) (by decide) ?_); clear hS; intro aa ww vv hS hp
  clear hR
  obtain ⟨rfl, hR⟩ := hp
  refine sA hS hR (Yld.not hS rfl) (by decide) ?_; clear hS; intro aa hS
  refine sA hS hR (Yld.assign hS rfl) (by decide) ?_; clear hS; intro aa hS
  refine wpList_nil ?_
  refine hK539 _ _ ?_
  refine condT hS rfl ?_
  refine wp_seq_k ?_; intro K540 hK540
  refine wp_region_lit ?_
  refine sA hS hR (Yld.assign hS rfl) (by decide) ?_; clear hS; intro aa hS
  refine wpList_nil ?_
  refine hK540 _ _ ?_
  refine wp_ret ?_
  repeat (first | with_reducible refine thenR ?_ | with_reducible refine blockR ?_ | with_reducible refine scopeR ?_)
  refine ret1 (fn := Try.f13) (e := .ret) (.inl rfl) Try.results13 hS hR ⟨_, (.tmp rfl), ?_⟩
  exact ⟨rfl, (hR.sub (by repeat (first | with_reducible exact Ex.refl | (with_reducible apply Ex.take; · repeat (first | with_reducible exact Pk.here | with_reducible apply Pk.there)) | with_reducible apply Ex.drop)))⟩
set_option maxRecDepth 20000 in
theorem lrOldest_n {l : List HP} {w : World} (hR : Sep (l) w) : CallR Try.prog 12 [.pointer none] w (fun v w' => v = .tuple [.int .i64 0, .bool false].toArray ∧ Sep (l) w') := by
  refine enter Try.func12 rfl Try.ntmps12 (Nat.le_of_ble_eq_true rfl) ?_; intro aa hS
  refine wp_seq_k ?_; intro K541 hK541
  refine wp_region_lit ?_
  refine sA hS hR (Yld.assign hS rfl) (by decide) ?_; clear hS; intro aa hS
  refine sA hS hR (Yld.assign hS rfl) (by decide) ?_; clear hS; intro aa hS
  refine wpList_nil ?_
  refine hK541 _ _ ?_
  refine wp_seq_k ?_; intro K542 hK542
  refine wp_seq_k ?_; intro K543 hK543
  refine wp_region_lit ?_
  refine sA hS hR (Yld.move hS rfl) (by decide) ?_; clear hS; intro aa hS
  refine sB (Bcall hS rfl Try.call29 (lrsome_n hR) (by decide) ?_); clear hS; intro aa ww vv hS hp
  clear hR
  obtain ⟨rfl, hR⟩ := hp
  refine sA hS hR (Yld.not hS rfl) (by decide) ?_; clear hS; intro aa hS
  refine wpList_nil ?_
  refine hK543 _ _ ?_
  refine condT hS rfl ?_
  refine wp_seq_k ?_; intro K544 hK544
  refine wp_region_lit ?_
  refine sA hS hR (Yld.assign hS rfl) (by decide) ?_; clear hS; intro aa hS
  refine sA hS hR (Yld.assign hS rfl) (by decide) ?_; clear hS; intro aa hS
  refine wpList_nil ?_
  refine hK544 _ _ ?_
  refine wp_ret ?_
  repeat (first | with_reducible refine thenR ?_ | with_reducible refine blockR ?_ | with_reducible refine scopeR ?_)
  refine retN (fn := Try.f12) (e := .ret) (.inl rfl) Try.results12 hS hR ⟨_, .cons (.tmp rfl) (.cons (.tmp rfl) (.nil)), rfl, ?_⟩
  exact ⟨rfl, (hR.sub (by repeat (first | with_reducible exact Ex.refl | (with_reducible apply Ex.take; · repeat (first | with_reducible exact Pk.here | with_reducible apply Pk.there)) | with_reducible apply Ex.drop)))⟩
set_option maxRecDepth 20000 in
theorem lrNewest_n {l : List HP} {w : World} (hR : Sep (l) w) : CallR Try.prog 26 [.pointer none] w (fun v w' => v = .tuple [.int .i64 0, .bool false].toArray ∧ Sep (l) w') := by
  refine enter Try.func26 rfl Try.ntmps26 (Nat.le_of_ble_eq_true rfl) ?_; intro aa hS
  refine wp_seq_k ?_; intro K545 hK545
  refine wp_region_lit ?_
  refine sA hS hR (Yld.assign hS rfl) (by decide) ?_; clear hS; intro aa hS
  refine sA hS hR (Yld.assign hS rfl) (by decide) ?_; clear hS; intro aa hS
  refine wpList_nil ?_
  refine hK545 _ _ ?_
  refine wp_seq_k ?_; intro K546 hK546
  refine wp_seq_k ?_; intro K547 hK547
  refine wp_region_lit ?_
  refine sA hS hR (Yld.move hS rfl) (by decide) ?_; clear hS; intro aa hS
  refine sB (Bcall hS rfl Try.call29 (lrsome_n hR) (by decide) ?_); clear hS; intro aa ww vv hS hp
  clear hR
  obtain ⟨rfl, hR⟩ := hp
  refine sA hS hR (Yld.not hS rfl) (by decide) ?_; clear hS; intro aa hS
  refine wpList_nil ?_
  refine hK547 _ _ ?_
  refine condT hS rfl ?_
  refine wp_seq_k ?_; intro K548 hK548
  refine wp_region_lit ?_
  refine sA hS hR (Yld.assign hS rfl) (by decide) ?_; clear hS; intro aa hS
  refine sA hS hR (Yld.assign hS rfl) (by decide) ?_; clear hS; intro aa hS
  refine wpList_nil ?_
  refine hK548 _ _ ?_
  refine wp_ret ?_
  repeat (first | with_reducible refine thenR ?_ | with_reducible refine blockR ?_ | with_reducible refine scopeR ?_)
  refine retN (fn := Try.f26) (e := .ret) (.inl rfl) Try.results26 hS hR ⟨_, .cons (.tmp rfl) (.cons (.tmp rfl) (.nil)), rfl, ?_⟩
  exact ⟨rfl, (hR.sub (by repeat (first | with_reducible exact Ex.refl | (with_reducible apply Ex.take; · repeat (first | with_reducible exact Pk.here | with_reducible apply Pk.there)) | with_reducible apply Ex.drop)))⟩
set_option maxRecDepth 20000 in
theorem lrWhen_n {i : Int} {l : List HP} {w : World} (hR : Sep (l) w) : CallR Try.prog 20 [.pointer none, .int .i64 i] w (fun v w' => v = .tuple [.int .i64 0, .bool false].toArray ∧ Sep (l) w') := by
  refine enter Try.func20 rfl Try.ntmps20 (Nat.le_of_ble_eq_true rfl) ?_; intro aa hS
  refine wp_seq_k ?_; intro K549 hK549
  refine wp_region_lit ?_
  refine sA hS hR (Yld.assign hS rfl) (by decide) ?_; clear hS; intro aa hS
  refine sA hS hR (Yld.assign hS rfl) (by decide) ?_; clear hS; intro aa hS
  refine wpList_nil ?_
  refine hK549 _ _ ?_
  refine wp_seq_k ?_; intro K550 hK550
  refine wp_seq_k ?_; intro K551 hK551
  refine wp_region_lit ?_
  refine sA hS hR (Yld.move hS rfl) (by decide) ?_; clear hS; intro aa hS
  refine sB (Bcall hS rfl Try.call29 (lrsome_n hR) (by decide) ?_); clear hS; intro aa ww vv hS hp
  clear hR
  obtain ⟨rfl, hR⟩ := hp
  refine sA hS hR (Yld.not hS rfl) (by decide) ?_; clear hS; intro aa hS
  refine wpList_nil ?_
  refine hK551 _ _ ?_
  refine condT hS rfl ?_
  refine wp_seq_k ?_; intro K552 hK552
  refine wp_region_lit ?_
  refine sA hS hR (Yld.assign hS rfl) (by decide) ?_; clear hS; intro aa hS
  refine sA hS hR (Yld.assign hS rfl) (by decide) ?_; clear hS; intro aa hS
  refine wpList_nil ?_
  refine hK552 _ _ ?_
  refine wp_ret ?_
  repeat (first | with_reducible refine thenR ?_ | with_reducible refine blockR ?_ | with_reducible refine scopeR ?_)
  refine retN (fn := Try.f20) (e := .ret) (.inl rfl) Try.results20 hS hR ⟨_, .cons (.tmp rfl) (.cons (.tmp rfl) (.nil)), rfl, ?_⟩
  exact ⟨rfl, (hR.sub (by repeat (first | with_reducible exact Ex.refl | (with_reducible apply Ex.take; · repeat (first | with_reducible exact Pk.here | with_reducible apply Pk.there)) | with_reducible apply Ex.drop)))⟩
set_option maxRecDepth 20000 in
theorem lrNow_n {l : List HP} {w : World} (hR : Sep (l) w) : CallR Try.prog 18 [.pointer none] w (fun v w' => v = .int .i64 0 ∧ Sep (l) w') := by
  refine enter Try.func18 rfl Try.ntmps18 (Nat.le_of_ble_eq_true rfl) ?_; intro aa hS
  refine wp_seq_k ?_; intro K553 hK553
  refine wp_region_lit ?_
  refine sA hS hR (Yld.assign hS rfl) (by decide) ?_; clear hS; intro aa hS
  refine wpList_nil ?_
  refine hK553 _ _ ?_
  refine wp_seq_k ?_; intro K554 hK554
  refine wp_seq_k ?_; intro K555 hK555
  refine wp_region_lit ?_
  refine sA hS hR (Yld.move hS rfl) (by decide) ?_; clear hS; intro aa hS
  refine sB (Bcall hS rfl Try.call29 (lrsome_n hR) (by decide) ?_); clear hS; intro aa ww vv hS hp
  clear hR
  obtain ⟨rfl, hR⟩ := hp
  refine sA hS hR (Yld.not hS rfl) (by decide) ?_; clear hS; intro aa hS
  refine wpList_nil ?_
  refine hK555 _ _ ?_
  refine condT hS rfl ?_
  refine wp_seq_k ?_; intro K556 hK556
  refine wp_region_lit ?_
  refine sA hS hR (Yld.assign hS rfl) (by decide) ?_; clear hS; intro aa hS
  refine wpList_nil ?_
  refine hK556 _ _ ?_
  refine wp_ret ?_
  repeat (first | with_reducible refine thenR ?_ | with_reducible refine blockR ?_ | with_reducible refine scopeR ?_)
  refine ret1 (fn := Try.f18) (e := .ret) (.inl rfl) Try.results18 hS hR ⟨_, (.tmp rfl), ?_⟩
  exact ⟨rfl, (hR.sub (by repeat (first | with_reducible exact Ex.refl | (with_reducible apply Ex.take; · repeat (first | with_reducible exact Pk.here | with_reducible apply Pk.there)) | with_reducible apply Ex.drop)))⟩
set_option maxRecDepth 20000 in
theorem lrLen_n {l : List HP} {w : World} (hR : Sep (l) w) : CallR Try.prog 15 [.pointer none] w (fun v w' => v = .int .i64 0 ∧ Sep (l) w') := by
  refine enter Try.func15 rfl Try.ntmps15 (Nat.le_of_ble_eq_true rfl) ?_; intro aa hS
  refine wp_seq_k ?_; intro K557 hK557
  refine wp_region_lit ?_
  refine sA hS hR (Yld.assign hS rfl) (by decide) ?_; clear hS; intro aa hS
  refine wpList_nil ?_
  refine hK557 _ _ ?_
  refine wp_seq_k ?_; intro K558 hK558
  refine wp_seq_k ?_; intro K559 hK559
  refine wp_region_lit ?_
  refine sA hS hR (Yld.move hS rfl) (by decide) ?_; clear hS; intro aa hS
  refine sB (Bcall hS rfl Try.call29 (lrsome_n hR) (by decide) ?_); clear hS; intro aa ww vv hS hp
  clear hR
  obtain ⟨rfl, hR⟩ := hp
  refine sA hS hR (Yld.not hS rfl) (by decide) ?_; clear hS; intro aa hS
  refine wpList_nil ?_
  refine hK559 _ _ ?_
  refine condT hS rfl ?_
  refine wp_seq_k ?_; intro K560 hK560
  refine wp_region_lit ?_
  refine sA hS hR (Yld.assign hS rfl) (by decide) ?_; clear hS; intro aa hS
  refine wpList_nil ?_
  refine hK560 _ _ ?_
  refine wp_ret ?_
  repeat (first | with_reducible refine thenR ?_ | with_reducible refine blockR ?_ | with_reducible refine scopeR ?_)
  refine ret1 (fn := Try.f15) (e := .ret) (.inl rfl) Try.results15 hS hR ⟨_, (.tmp rfl), ?_⟩
  exact ⟨rfl, (hR.sub (by repeat (first | with_reducible exact Ex.refl | (with_reducible apply Ex.take; · repeat (first | with_reducible exact Pk.here | with_reducible apply Pk.there)) | with_reducible apply Ex.drop)))⟩
set_option maxRecDepth 20000 in
theorem each_n {p1 L : Nat} {J : Nat → HP} {l : List HP} {w : World} (hR : Sep (J 0 :: blk p1 [.pointer none] 23 :: l) w) : CallR Try.prog 49 [.func (.yield L) #[] #[], .pointer (some ⟨p1, 0, none⟩)] w (fun v w' => Sep (J 0 :: blk p1 [.pointer none] 23 :: l) w' ∨ Sep ((pure' False) :: blk p1 [.pointer none] 23 :: l) w') := by
  refine enterX Try.func49 rfl Try.ntmps49 (Nat.le_of_ble_eq_true rfl) ?_; intro aa hS
  refine Go.wpIn_seq_k ?_; intro K561 hK561
  refine Go.wpIn_seq_k ?_; intro K562 hK562
  refine Go.wpIn_region_lit ?_
  refine xA hS hR (Yld.load1 hS rfl Try.underlying23 rfl (by first | exact Rd.blk (by repeat (first | with_reducible exact Pk.here | with_reducible apply Pk.there)) (by rfl) | exact Rd.rec (by repeat (first | with_reducible exact Pk.here | with_reducible apply Pk.there)) (by intro _; rfl) (by omega) rfl | exact Rd.rec0 (by repeat (first | with_reducible exact Pk.here | with_reducible apply Pk.there)) (by intro _; rfl) (by omega) rfl | exact Rd.flatJ (by repeat (first | with_reducible exact Pk.here | with_reducible apply Pk.there)) (by intro _; rfl) (by omega) rfl | exact Rd.flat0 (by repeat (first | with_reducible exact Pk.here | with_reducible apply Pk.there)) (by intro _; rfl) (by omega) rfl)) (by decide) ?_; clear hS; intro aa hS
  refine xB hS (Bcall hS rfl Try.call29 (lrsome_n hR) (by decide) ?_); clear hS; intro aa ww vv hS hp; refine ⟨hS.defers, ?_⟩
  clear hR
  obtain ⟨rfl, hR⟩ := hp
  refine xA hS hR (Yld.not hS rfl) (by decide) ?_; clear hS; intro aa hS
  refine Go.wpListIn_nil ?_
  refine hK562 _ _ ?_
  refine xcondT hS rfl ?_
  refine Go.wpIn_ret ?_
  repeat (first | with_reducible refine thenR ?_ | with_reducible refine blockR ?_ | with_reducible refine scopeR ?_)
  refine xretN (fn := Try.f49) (e := .ret) [] rfl (.inl rfl) Try.results49 hS hR ?_; clear hR; intro ww hR; refine ⟨_, .nil, rfl, ?_⟩
  exact .inl (hR.sub (by repeat (first | with_reducible exact Ex.refl | (with_reducible apply Ex.take; · repeat (first | with_reducible exact Pk.here | with_reducible apply Pk.there)) | with_reducible apply Ex.drop)))
set_option maxRecDepth 20000 in
theorem lrthose_n {fk : Fn} {caps : Array Value} {l : List HP} {w : World} (hR : Sep (l) w) : CallR Try.prog 27 [.pointer none, .func fk #[] caps] w (fun v w' => v = .slice none 0 0 ∧ Sep (l) w') := by
  refine enterX Try.func27 rfl Try.ntmps27 (Nat.le_of_ble_eq_true rfl) ?_; intro aa hS
  refine Go.wpIn_seq_k ?_; intro K563 hK563
  refine Go.wpIn_region_lit ?_
  refine xB hS (Bbox hS hR rfl (by rfl) (by decide) ?_); clear hS hR; intro aa ww bb3 hS hR; refine ⟨hS.defers, ?_⟩
  refine xA hS hR (Yld.assign hS rfl) (by decide) ?_; clear hS; intro aa hS
  refine Go.wpListIn_nil ?_
  refine hK563 _ _ ?_
  refine Go.wpIn_seq_k ?_; intro K564 hK564
  refine Go.wpIn_region_lit ?_
  refine xB hS (Balloc hS hR info27 (by rfl) (by rfl) (by decide) ?_); clear hS hR; intro aa ww bb5 hS hR; refine ⟨hS.defers, ?_⟩
  refine Go.wpListIn_nil ?_
  refine hK564 _ _ ?_
  refine Go.wpIn_seq_k ?_; intro K565 hK565
  refine Go.wpIn_seq_k ?_; intro K566 hK566
  refine Go.wpIn_region_lit ?_
  refine xA hS hR (Yld.move hS rfl) (by decide) ?_; clear hS; intro aa hS
  refine xB hS (Bcall hS rfl Try.call43 (lreach_ok hR) (by decide) ?_); clear hS; intro aa ww vv hS hp; refine ⟨hS.defers, ?_⟩
  clear hR
  obtain ⟨p1, rfl, hR⟩ := hp
  refine Go.wpListIn_nil ?_
  refine hK566 _ _ ?_
  refine Go.wpIn_block ?_
  replace hS := hS.le (T := [(3, _), (4, _), (5, _), (8, _)]) (Le.cons rfl (Le.cons rfl (Le.cons rfl (Le.cons rfl (Le.nil _)))))
  refine yrange hS hR rfl Try.call49 ?_
  intro D567 L567 lr ww hlr hR
  have hround : ∀ (Y : List HP) (i : Nat) (w : World), i < 0 → Sep ((fun i : Nat => box (fun x : Unit => True) (fun x => [lr .ready none, blk bb5 [.slice none 0 0] 27])) i :: Y) w → YieldR Try.prog L567 [.int .i64 (i : Int)] w (fun zb zw => Sep ((bif zb then (fun i : Nat => box (fun x : Unit => True) (fun x => [lr .ready none, blk bb5 [.slice none 0 0] 27])) (i + 1) else (pure' False)) :: Y) zw) := by
    intro Y i ww hi; exact absurd hi (Nat.not_lt_zero _)
  replace hR := Sep.boxI (X := Unit) (C := fun x : Unit => True) (L := fun x : Unit => [lr .ready none, blk bb5 [.slice none 0 0] 27]) () (trivial) (by dsimp only [List.cons_append, List.nil_append]; exact hR.sub (by repeat (first | with_reducible exact Ex.refl | (with_reducible apply Ex.take; · repeat (first | with_reducible exact Pk.here | with_reducible apply Pk.there)) | with_reducible apply Ex.drop)))
  refine CallR.mono (each_n (J := (fun i : Nat => box (fun x : Unit => True) (fun x => [lr .ready none, blk bb5 [.slice none 0 0] 27]))) (L := L567) ((hR.pk (r := blk p1 _ _) (by repeat (first | with_reducible exact Pk.here | with_reducible apply Pk.there))).pk (r := box _ _) (by repeat (first | with_reducible exact Pk.here | with_reducible apply Pk.there)))) ?_; clear hR; rintro vv ww (hR | hR)
  ·
    obtain ⟨x0, hI, hR⟩ := hR.boxE
    try dsimp only [List.cons_append, List.nil_append] at hI hR
    refine ⟨.ready, none, _, by simp, hR, ?_⟩; clear hR; intro ww hR
    refine hK565 _ _ ?_
    refine Go.wpIn_seq_k ?_; intro K568 hK568
    refine Go.wpIn_region_lit ?_
    refine xA hS hR (Yld.load1 hS rfl Try.underlying27 rfl (by first | exact Rd.blk (by repeat (first | with_reducible exact Pk.here | with_reducible apply Pk.there)) (by rfl) | exact Rd.rec (by repeat (first | with_reducible exact Pk.here | with_reducible apply Pk.there)) (by intro _; rfl) (by omega) rfl | exact Rd.rec0 (by repeat (first | with_reducible exact Pk.here | with_reducible apply Pk.there)) (by intro _; rfl) (by omega) rfl | exact Rd.flatJ (by repeat (first | with_reducible exact Pk.here | with_reducible apply Pk.there)) (by intro _; rfl) (by omega) rfl | exact Rd.flat0 (by repeat (first | with_reducible exact Pk.here | with_reducible apply Pk.there)) (by intro _; rfl) (by omega) rfl)) (by decide) ?_; clear hS; intro aa hS
    refine xA hS hR (Yld.assign hS rfl) (by decide) ?_; clear hS; intro aa hS
    refine Go.wpListIn_nil ?_
    refine hK568 _ _ ?_
    refine Go.wpIn_ret ?_
    repeat (first | with_reducible refine thenR ?_ | with_reducible refine blockR ?_ | with_reducible refine scopeR ?_)
    replace hR := hR.pk (r := DF D567) (by repeat (first | with_reducible exact Pk.here | with_reducible apply Pk.there))
    refine xret1 (fn := Try.f27) (e := .ret) [D567] rfl (.inl rfl) Try.results27 hS hR ?_; clear hR; intro ww hR; refine ⟨_, (.tmp rfl), ?_⟩
    exact ⟨rfl, (hR.sub (by repeat (first | with_reducible exact Ex.refl | (with_reducible apply Ex.take; · repeat (first | with_reducible exact Pk.here | with_reducible apply Pk.there)) | with_reducible apply Ex.drop)))⟩
  · exact absurd (hR.pureE).1 id
set_option maxRecDepth 20000 in
theorem lrAll_n {l : List HP} {w : World} (hR : Sep (l) w) : CallR Try.prog 11 [.pointer none] w (fun v w' => v = .slice none 0 0 ∧ Sep (l) w') := by
  refine enter Try.func11 rfl Try.ntmps11 (Nat.le_of_ble_eq_true rfl) ?_; intro aa hS
  refine wp_seq_k ?_; intro K569 hK569
  refine wp_region_lit ?_
  refine sA hS hR (Yld.assign hS rfl) (by decide) ?_; clear hS; intro aa hS
  refine wpList_nil ?_
  refine hK569 _ _ ?_
  refine wp_seq_k ?_; intro K570 hK570
  refine wp_region_lit ?_
  refine sA hS hR (Yld.move hS rfl) (by decide) ?_; clear hS; intro aa hS
  refine sB (Bcall hS rfl Try.call27 (lrthose_n hR) (by decide) ?_); clear hS; intro aa ww vv hS hp
  clear hR
  obtain ⟨rfl, hR⟩ := hp
  refine sA hS hR (Yld.assign hS rfl) (by decide) ?_; clear hS; intro aa hS
  refine wpList_nil ?_
  refine hK570 _ _ ?_
  refine wp_ret ?_
  repeat (first | with_reducible refine thenR ?_ | with_reducible refine blockR ?_ | with_reducible refine scopeR ?_)
  refine ret1 (fn := Try.f11) (e := .ret) (.inl rfl) Try.results11 hS hR ⟨_, (.tmp rfl), ?_⟩
  exact ⟨rfl, (hR.sub (by repeat (first | with_reducible exact Ex.refl | (with_reducible apply Ex.take; · repeat (first | with_reducible exact Pk.here | with_reducible apply Pk.there)) | with_reducible apply Ex.drop)))⟩
set_option maxRecDepth 20000 in
theorem lrSince_n {i : Int} {l : List HP} {w : World} (hR : Sep (l) w) : CallR Try.prog 17 [.pointer none, .int .i64 i] w (fun v w' => v = .slice none 0 0 ∧ Sep (l) w') := by
  refine enter Try.func17 rfl Try.ntmps17 (Nat.le_of_ble_eq_true rfl) ?_; intro aa hS
  refine wp_seq_k ?_; intro K571 hK571
  refine wp_region_lit ?_
  refine sB (Bbox hS hR rfl (by rfl) (by decide) ?_); clear hS hR; intro aa ww bb2 hS hR
  refine sB (Bbox hS hR rfl (by rfl) (by decide) ?_); clear hS hR; intro aa ww bb3 hS hR
  refine sA hS hR (Yld.assign hS rfl) (by decide) ?_; clear hS; intro aa hS
  refine wpList_nil ?_
  refine hK571 _ _ ?_
  refine wp_seq_k ?_; intro K572 hK572
  refine wp_region_lit ?_
  refine sA hS hR (Yld.load1 hS rfl Try.underlying23 rfl (by first | exact Rd.blk (by repeat (first | with_reducible exact Pk.here | with_reducible apply Pk.there)) (by rfl) | exact Rd.rec (by repeat (first | with_reducible exact Pk.here | with_reducible apply Pk.there)) (by intro _; rfl) (by omega) rfl | exact Rd.rec0 (by repeat (first | with_reducible exact Pk.here | with_reducible apply Pk.there)) (by intro _; rfl) (by omega) rfl | exact Rd.flatJ (by repeat (first | with_reducible exact Pk.here | with_reducible apply Pk.there)) (by intro _; rfl) (by omega) rfl | exact Rd.flat0 (by repeat (first | with_reducible exact Pk.here | with_reducible apply Pk.there)) (by intro _; rfl) (by omega) rfl)) (by decide) ?_; clear hS; intro aa hS
  refine sA hS hR (Yld.makeFunc hS rfl rfl) (by decide) ?_; clear hS; intro aa hS
  refine sB (Bcall hS rfl Try.call27 (lrthose_n hR) (by decide) ?_); clear hS; intro aa ww vv hS hp
  clear hR
  obtain ⟨rfl, hR⟩ := hp
  refine sA hS hR (Yld.assign hS rfl) (by decide) ?_; clear hS; intro aa hS
  refine wpList_nil ?_
  refine hK572 _ _ ?_
  refine wp_ret ?_
  repeat (first | with_reducible refine thenR ?_ | with_reducible refine blockR ?_ | with_reducible refine scopeR ?_)
  refine ret1 (fn := Try.f17) (e := .ret) (.inl rfl) Try.results17 hS hR ⟨_, (.tmp rfl), ?_⟩
  exact ⟨rfl, (hR.sub (by repeat (first | with_reducible exact Ex.refl | (with_reducible apply Ex.take; · repeat (first | with_reducible exact Pk.here | with_reducible apply Pk.there)) | with_reducible apply Ex.drop)))⟩
set_option maxRecDepth 20000 in
theorem lrsome_z {z : Nat} {l : List HP} {w : World} (hR : Sep (blk z [.pointer none, .slice none 0 0, .int .i64 0] 56 :: l) w) : CallR Try.prog 29 [.pointer (some ⟨z, 0, none⟩)] w (fun v w' => v = .bool false ∧ Sep (blk z [.pointer none, .slice none 0 0, .int .i64 0] 56 :: l) w') := by
  refine enter Try.func29 rfl Try.ntmps29 (Nat.le_of_ble_eq_true rfl) ?_; intro aa hS
  refine wp_seq_k ?_; intro K573 hK573
  refine wp_region_lit ?_
  refine sA hS hR (Yld.assign hS rfl) (by decide) ?_; clear hS; intro aa hS
  refine wpList_nil ?_
  refine hK573 _ _ ?_
  refine wp_seq_k ?_; intro K574 hK574
  refine wp_region_lit ?_
  refine sA hS hR (Yld.move hS rfl) (by decide) ?_; clear hS; intro aa hS
  refine sA hS hR (Yld.neqNil hS rfl rfl Try.underlying23) (by decide) ?_; clear hS; intro aa hS
  replace hS := hS.sayB (t := 4) true rfl (by rfl)
  refine sA hS hR (Yld.move hS rfl) (by decide) ?_; clear hS; intro aa hS
  refine sAg hS hR rfl rfl (Yld.move hS rfl) (by decide) ?_; clear hS; intro aa hS
  refine sAg hS hR rfl rfl (Yld.nilCheck hS rfl) (by decide) ?_; clear hS; intro aa hS
  refine sAg hS hR rfl rfl (Yld.fieldAddr hS rfl 0 Try.underlying56 rfl rfl info54 (by decide)) (by decide) ?_; clear hS; intro aa hS
  refine sAg hS hR rfl rfl (Yld.load1 hS rfl Try.underlying54 rfl (by first | exact Rd.blk (by repeat (first | with_reducible exact Pk.here | with_reducible apply Pk.there)) (by rfl) | exact Rd.rec (by repeat (first | with_reducible exact Pk.here | with_reducible apply Pk.there)) (by intro _; rfl) (by omega) rfl | exact Rd.rec0 (by repeat (first | with_reducible exact Pk.here | with_reducible apply Pk.there)) (by intro _; rfl) (by omega) rfl | exact Rd.flatJ (by repeat (first | with_reducible exact Pk.here | with_reducible apply Pk.there)) (by intro _; rfl) (by omega) rfl | exact Rd.flat0 (by repeat (first | with_reducible exact Pk.here | with_reducible apply Pk.there)) (by intro _; rfl) (by omega) rfl)) (by decide) ?_; clear hS; intro aa hS
  refine sAg hS hR rfl rfl (Yld.neqNil hS rfl rfl Try.underlying54) (by decide) ?_; clear hS; intro aa hS
  replace hS := hS.sayB (t := 10) false rfl (by rfl)
  refine sA hS hR (Yld.pickT hS rfl rfl) (by decide) ?_; clear hS; intro aa hS
  refine sA hS hR (Yld.assign hS rfl) (by decide) ?_; clear hS; intro aa hS
  refine wpList_nil ?_
  refine hK574 _ _ ?_
  refine wp_ret ?_
  repeat (first | with_reducible refine thenR ?_ | with_reducible refine blockR ?_ | with_reducible refine scopeR ?_)
  refine ret1 (fn := Try.f29) (e := .ret) (.inl rfl) Try.results29 hS hR ⟨_, (.tmp rfl), ?_⟩
  exact ⟨rfl, (hR.sub (by repeat (first | with_reducible exact Ex.refl | (with_reducible apply Ex.take; · repeat (first | with_reducible exact Pk.here | with_reducible apply Pk.there)) | with_reducible apply Ex.drop)))⟩
set_option maxRecDepth 20000 in
theorem lrSee_z {z : Nat} {i : Int} {l : List HP} {w : World} (hR : Sep (blk z [.pointer none, .slice none 0 0, .int .i64 0] 56 :: l) w) : CallR Try.prog 19 [.pointer (some ⟨z, 0, none⟩), .int .i64 i] w (fun v w' => v = .tuple [.int .i64 0, .int .i64 1].toArray ∧ Sep (blk z [.pointer none, .slice none 0 0, .int .i64 0] 56 :: l) w') := by
  refine enter Try.func19 rfl Try.ntmps19 (Nat.le_of_ble_eq_true rfl) ?_; intro aa hS
  refine wp_seq_k ?_; intro K575 hK575
  refine wp_region_lit ?_
  refine sA hS hR (Yld.assign hS rfl) (by decide) ?_; clear hS; intro aa hS
  refine sA hS hR (Yld.assign hS rfl) (by decide) ?_; clear hS; intro aa hS
  refine wpList_nil ?_
  refine hK575 _ _ ?_
  refine wp_seq_k ?_; intro K576 hK576
  refine wp_block ?_
  refine wp_seq_k ?_; intro K577 hK577
  refine wp_region_lit ?_
  refine sA hS hR (Yld.move hS rfl) (by decide) ?_; clear hS; intro aa hS
  refine sB (Bcall hS rfl Try.call29 (lrsome_z (hR.pk (r := blk z _ _) (by repeat (first | with_reducible exact Pk.here | with_reducible apply Pk.there)))) (by decide) ?_); clear hS; intro aa ww vv hS hp
  clear hR
  obtain ⟨rfl, hR⟩ := hp
  refine sA hS hR (Yld.not hS rfl) (by decide) ?_; clear hS; intro aa hS
  refine sA hS hR (Yld.assign hS rfl) (by decide) ?_; clear hS; intro aa hS
  refine wpList_nil ?_
  refine hK577 _ _ ?_
  refine condT hS rfl ?_
  refine wp_seq_k ?_; intro K578 hK578
  refine wp_region_lit ?_
  refine sA hS hR (Yld.assign hS rfl) (by decide) ?_; clear hS; intro aa hS
  refine sA hS hR (Yld.assign hS rfl) (by decide) ?_; clear hS; intro aa hS
  refine wpList_nil ?_
  refine hK578 _ _ ?_
  refine wp_ret ?_
  repeat (first | with_reducible refine thenR ?_ | with_reducible refine blockR ?_ | with_reducible refine scopeR ?_)
  refine retN (fn := Try.f19) (e := .ret) (.inl rfl) Try.results19 hS hR ⟨_, .cons (.tmp rfl) (.cons (.tmp rfl) (.nil)), rfl, ?_⟩
  exact ⟨rfl, (hR.sub (by repeat (first | with_reducible exact Ex.refl | (with_reducible apply Ex.take; · repeat (first | with_reducible exact Pk.here | with_reducible apply Pk.there)) | with_reducible apply Ex.drop)))⟩
set_option maxRecDepth 20000 in
theorem lrOut_z {z : Nat} {i : Int} {l : List HP} {w : World} (hR : Sep (blk z [.pointer none, .slice none 0 0, .int .i64 0] 56 :: l) w) : CallR Try.prog 13 [.pointer (some ⟨z, 0, none⟩), .int .i64 i] w (fun v w' => v = .int .i64 1 ∧ Sep (blk z [.pointer none, .slice none 0 0, .int .i64 0] 56 :: l) w') := by
  refine enter Try.func13 rfl Try.ntmps13 (Nat.le_of_ble_eq_true rfl) ?_; intro aa hS
  refine wp_seq_k ?_; intro K579 hK579
  refine wp_region_lit ?_
  refine sA hS hR (Yld.assign hS rfl) (by decide) ?_; clear hS; intro aa hS
  refine wpList_nil ?_
  refine hK579 _ _ ?_
  refine wp_seq_k ?_; intro K580 hK580
  refine wp_block ?_
  refine wp_seq_k ?_; intro K581 hK581
  refine wp_region_lit ?_
  refine sA hS hR (Yld.move hS rfl) (by decide) ?_; clear hS; intro aa hS
  refine sB (Bcall hS rfl Try.call29 (lrsome_z (hR.pk (r := blk z _ _) (by repeat (first | with_reducible exact Pk.here | with_reducible apply Pk.there)))) (by decide) ?_); clear hS; intro aa ww vv hS hp
  clear hR
  obtain ⟨rfl, hR⟩ := hp
  refine sA hS hR (Yld.not hS rfl) (by decide) ?_; clear hS; intro aa hS
  refine sA hS hR (Yld.assign hS rfl) (by decide) ?_; clear hS; intro aa hS
  refine wpList_nil ?_
  refine hK581 _ _ ?_
  refine condT hS rfl ?_
  refine wp_seq_k ?_; intro K582 hK582
  refine wp_region_lit ?_
  refine sA hS hR (Yld.assign hS rfl) (by decide) ?_; clear hS; intro aa hS
  refine wpList_nil ?_
  refine hK582 _ _ ?_
  refine wp_ret ?_
  repeat (first | with_reducible refine thenR ?_ | with_reducible refine blockR ?_ | with_reducible refine scopeR ?_)
  refine ret1 (fn := Try.f13) (e := .ret) (.inl rfl) Try.results13 hS hR ⟨_, (.tmp rfl), ?_⟩
  exact ⟨rfl, (hR.sub (by repeat (first | with_reducible exact Ex.refl | (with_reducible apply Ex.take; · repeat (first | with_reducible exact Pk.here | with_reducible apply Pk.there)) | with_reducible apply Ex.drop)))⟩
set_option maxRecDepth 20000 in
theorem lrOldest_z {z : Nat} {l : List HP} {w : World} (hR : Sep (blk z [.pointer none, .slice none 0 0, .int .i64 0] 56 :: l) w) : CallR Try.prog 12 [.pointer (some ⟨z, 0, none⟩)] w (fun v w' => v = .tuple [.int .i64 0, .bool false].toArray ∧ Sep (blk z [.pointer none, .slice none 0 0, .int .i64 0] 56 :: l) w') := by
  refine enter Try.func12 rfl Try.ntmps12 (Nat.le_of_ble_eq_true rfl) ?_; intro aa hS
  refine wp_seq_k ?_; intro K583 hK583
  refine wp_region_lit ?_
  refine sA hS hR (Yld.assign hS rfl) (by decide) ?_; clear hS; intro aa hS
  refine sA hS hR (Yld.assign hS rfl) (by decide) ?_; clear hS; intro aa hS
  refine wpList_nil ?_
  refine hK583 _ _ ?_
  refine wp_seq_k ?_; intro K584 hK584
  refine wp_seq_k ?_; intro K585 hK585
  refine wp_region_lit ?_
  refine sA hS hR (Yld.move hS rfl) (by decide) ?_; clear hS; intro aa hS
  refine sB (Bcall hS rfl Try.call29 (lrsome_z (hR.pk (r := blk z _ _) (by repeat (first | with_reducible exact Pk.here | with_reducible apply Pk.there)))) (by decide) ?_); clear hS; intro aa ww vv hS hp
  clear hR
  obtain ⟨rfl, hR⟩ := hp
  refine sA hS hR (Yld.not hS rfl) (by decide) ?_; clear hS; intro aa hS
  refine wpList_nil ?_
  refine hK585 _ _ ?_
  refine condT hS rfl ?_
  refine wp_seq_k ?_; intro K586 hK586
  refine wp_region_lit ?_
  refine sA hS hR (Yld.assign hS rfl) (by decide) ?_; clear hS; intro aa hS
  refine sA hS hR (Yld.assign hS rfl) (by decide) ?_; clear hS; intro aa hS
  refine wpList_nil ?_
  refine hK586 _ _ ?_
  refine wp_ret ?_
  repeat (first | with_reducible refine thenR ?_ | with_reducible refine blockR ?_ | with_reducible refine scopeR ?_)
  refine retN (fn := Try.f12) (e := .ret) (.inl rfl) Try.results12 hS hR ⟨_, .cons (.tmp rfl) (.cons (.tmp rfl) (.nil)), rfl, ?_⟩
  exact ⟨rfl, (hR.sub (by repeat (first | with_reducible exact Ex.refl | (with_reducible apply Ex.take; · repeat (first | with_reducible exact Pk.here | with_reducible apply Pk.there)) | with_reducible apply Ex.drop)))⟩
set_option maxRecDepth 20000 in
theorem lrNewest_z {z : Nat} {l : List HP} {w : World} (hR : Sep (blk z [.pointer none, .slice none 0 0, .int .i64 0] 56 :: l) w) : CallR Try.prog 26 [.pointer (some ⟨z, 0, none⟩)] w (fun v w' => v = .tuple [.int .i64 0, .bool false].toArray ∧ Sep (blk z [.pointer none, .slice none 0 0, .int .i64 0] 56 :: l) w') := by
  refine enter Try.func26 rfl Try.ntmps26 (Nat.le_of_ble_eq_true rfl) ?_; intro aa hS
  refine wp_seq_k ?_; intro K587 hK587
  refine wp_region_lit ?_
  refine sA hS hR (Yld.assign hS rfl) (by decide) ?_; clear hS; intro aa hS
  refine sA hS hR (Yld.assign hS rfl) (by decide) ?_; clear hS; intro aa hS
  refine wpList_nil ?_
  refine hK587 _ _ ?_
  refine wp_seq_k ?_; intro K588 hK588
  refine wp_seq_k ?_; intro K589 hK589
  refine wp_region_lit ?_
  refine sA hS hR (Yld.move hS rfl) (by decide) ?_; clear hS; intro aa hS
  refine sB (Bcall hS rfl Try.call29 (lrsome_z (hR.pk (r := blk z _ _) (by repeat (first | with_reducible exact Pk.here | with_reducible apply Pk.there)))) (by decide) ?_); clear hS; intro aa ww vv hS hp
  clear hR
  obtain ⟨rfl, hR⟩ := hp
  refine sA hS hR (Yld.not hS rfl) (by decide) ?_; clear hS; intro aa hS
  refine wpList_nil ?_
  refine hK589 _ _ ?_
  refine condT hS rfl ?_
  refine wp_seq_k ?_; intro K590 hK590
  refine wp_region_lit ?_
  refine sA hS hR (Yld.assign hS rfl) (by decide) ?_; clear hS; intro aa hS
  refine sA hS hR (Yld.assign hS rfl) (by decide) ?_; clear hS; intro aa hS
  refine wpList_nil ?_
  refine hK590 _ _ ?_
  refine wp_ret ?_
  repeat (first | with_reducible refine thenR ?_ | with_reducible refine blockR ?_ | with_reducible refine scopeR ?_)
  refine retN (fn := Try.f26) (e := .ret) (.inl rfl) Try.results26 hS hR ⟨_, .cons (.tmp rfl) (.cons (.tmp rfl) (.nil)), rfl, ?_⟩
  exact ⟨rfl, (hR.sub (by repeat (first | with_reducible exact Ex.refl | (with_reducible apply Ex.take; · repeat (first | with_reducible exact Pk.here | with_reducible apply Pk.there)) | with_reducible apply Ex.drop)))⟩
set_option maxRecDepth 20000 in
theorem lrWhen_z {z : Nat} {i : Int} {l : List HP} {w : World} (hR : Sep (blk z [.pointer none, .slice none 0 0, .int .i64 0] 56 :: l) w) : CallR Try.prog 20 [.pointer (some ⟨z, 0, none⟩), .int .i64 i] w (fun v w' => v = .tuple [.int .i64 0, .bool false].toArray ∧ Sep (blk z [.pointer none, .slice none 0 0, .int .i64 0] 56 :: l) w') := by
  refine enter Try.func20 rfl Try.ntmps20 (Nat.le_of_ble_eq_true rfl) ?_; intro aa hS
  refine wp_seq_k ?_; intro K591 hK591
  refine wp_region_lit ?_
  refine sA hS hR (Yld.assign hS rfl) (by decide) ?_; clear hS; intro aa hS
  refine sA hS hR (Yld.assign hS rfl) (by decide) ?_; clear hS; intro aa hS
  refine wpList_nil ?_
  refine hK591 _ _ ?_
  refine wp_seq_k ?_; intro K592 hK592
  refine wp_seq_k ?_; intro K593 hK593
  refine wp_region_lit ?_
  refine sA hS hR (Yld.move hS rfl) (by decide) ?_; clear hS; intro aa hS
  refine sB (Bcall hS rfl Try.call29 (lrsome_z (hR.pk (r := blk z _ _) (by repeat (first | with_reducible exact Pk.here | with_reducible apply Pk.there)))) (by decide) ?_); clear hS; intro aa ww vv hS hp
  clear hR
  obtain ⟨rfl, hR⟩ := hp
  refine sA hS hR (Yld.not hS rfl) (by decide) ?_; clear hS; intro aa hS
  refine wpList_nil ?_
  refine hK593 _ _ ?_
  refine condT hS rfl ?_
  refine wp_seq_k ?_; intro K594 hK594
  refine wp_region_lit ?_
  refine sA hS hR (Yld.assign hS rfl) (by decide) ?_; clear hS; intro aa hS
  refine sA hS hR (Yld.assign hS rfl) (by decide) ?_; clear hS; intro aa hS
  refine wpList_nil ?_
  refine hK594 _ _ ?_
  refine wp_ret ?_
  repeat (first | with_reducible refine thenR ?_ | with_reducible refine blockR ?_ | with_reducible refine scopeR ?_)
  refine retN (fn := Try.f20) (e := .ret) (.inl rfl) Try.results20 hS hR ⟨_, .cons (.tmp rfl) (.cons (.tmp rfl) (.nil)), rfl, ?_⟩
  exact ⟨rfl, (hR.sub (by repeat (first | with_reducible exact Ex.refl | (with_reducible apply Ex.take; · repeat (first | with_reducible exact Pk.here | with_reducible apply Pk.there)) | with_reducible apply Ex.drop)))⟩
set_option maxRecDepth 20000 in
theorem lrNow_z {z : Nat} {l : List HP} {w : World} (hR : Sep (blk z [.pointer none, .slice none 0 0, .int .i64 0] 56 :: l) w) : CallR Try.prog 18 [.pointer (some ⟨z, 0, none⟩)] w (fun v w' => v = .int .i64 0 ∧ Sep (blk z [.pointer none, .slice none 0 0, .int .i64 0] 56 :: l) w') := by
  refine enter Try.func18 rfl Try.ntmps18 (Nat.le_of_ble_eq_true rfl) ?_; intro aa hS
  refine wp_seq_k ?_; intro K595 hK595
  refine wp_region_lit ?_
  refine sA hS hR (Yld.assign hS rfl) (by decide) ?_; clear hS; intro aa hS
  refine wpList_nil ?_
  refine hK595 _ _ ?_
  refine wp_seq_k ?_; intro K596 hK596
  refine wp_seq_k ?_; intro K597 hK597
  refine wp_region_lit ?_
  refine sA hS hR (Yld.move hS rfl) (by decide) ?_; clear hS; intro aa hS
  refine sB (Bcall hS rfl Try.call29 (lrsome_z (hR.pk (r := blk z _ _) (by repeat (first | with_reducible exact Pk.here | with_reducible apply Pk.there)))) (by decide) ?_); clear hS; intro aa ww vv hS hp
  clear hR
  obtain ⟨rfl, hR⟩ := hp
  refine sA hS hR (Yld.not hS rfl) (by decide) ?_; clear hS; intro aa hS
  refine wpList_nil ?_
  refine hK597 _ _ ?_
  refine condT hS rfl ?_
  refine wp_seq_k ?_; intro K598 hK598
  refine wp_region_lit ?_
  refine sA hS hR (Yld.assign hS rfl) (by decide) ?_; clear hS; intro aa hS
  refine wpList_nil ?_
  refine hK598 _ _ ?_
  refine wp_ret ?_
  repeat (first | with_reducible refine thenR ?_ | with_reducible refine blockR ?_ | with_reducible refine scopeR ?_)
  refine ret1 (fn := Try.f18) (e := .ret) (.inl rfl) Try.results18 hS hR ⟨_, (.tmp rfl), ?_⟩
  exact ⟨rfl, (hR.sub (by repeat (first | with_reducible exact Ex.refl | (with_reducible apply Ex.take; · repeat (first | with_reducible exact Pk.here | with_reducible apply Pk.there)) | with_reducible apply Ex.drop)))⟩
set_option maxRecDepth 20000 in
theorem lrLen_z {z : Nat} {l : List HP} {w : World} (hR : Sep (blk z [.pointer none, .slice none 0 0, .int .i64 0] 56 :: l) w) : CallR Try.prog 15 [.pointer (some ⟨z, 0, none⟩)] w (fun v w' => v = .int .i64 0 ∧ Sep (blk z [.pointer none, .slice none 0 0, .int .i64 0] 56 :: l) w') := by
  refine enter Try.func15 rfl Try.ntmps15 (Nat.le_of_ble_eq_true rfl) ?_; intro aa hS
  refine wp_seq_k ?_; intro K599 hK599
  refine wp_region_lit ?_
  refine sA hS hR (Yld.assign hS rfl) (by decide) ?_; clear hS; intro aa hS
  refine wpList_nil ?_
  refine hK599 _ _ ?_
  refine wp_seq_k ?_; intro K600 hK600
  refine wp_seq_k ?_; intro K601 hK601
  refine wp_region_lit ?_
  refine sA hS hR (Yld.move hS rfl) (by decide) ?_; clear hS; intro aa hS
  refine sB (Bcall hS rfl Try.call29 (lrsome_z (hR.pk (r := blk z _ _) (by repeat (first | with_reducible exact Pk.here | with_reducible apply Pk.there)))) (by decide) ?_); clear hS; intro aa ww vv hS hp
  clear hR
  obtain ⟨rfl, hR⟩ := hp
  refine sA hS hR (Yld.not hS rfl) (by decide) ?_; clear hS; intro aa hS
  refine wpList_nil ?_
  refine hK601 _ _ ?_
  refine condT hS rfl ?_
  refine wp_seq_k ?_; intro K602 hK602
  refine wp_region_lit ?_
  refine sA hS hR (Yld.assign hS rfl) (by decide) ?_; clear hS; intro aa hS
  refine wpList_nil ?_
  refine hK602 _ _ ?_
  refine wp_ret ?_
  repeat (first | with_reducible refine thenR ?_ | with_reducible refine blockR ?_ | with_reducible refine scopeR ?_)
  refine ret1 (fn := Try.f15) (e := .ret) (.inl rfl) Try.results15 hS hR ⟨_, (.tmp rfl), ?_⟩
  exact ⟨rfl, (hR.sub (by repeat (first | with_reducible exact Ex.refl | (with_reducible apply Ex.take; · repeat (first | with_reducible exact Pk.here | with_reducible apply Pk.there)) | with_reducible apply Ex.drop)))⟩
set_option maxRecDepth 20000 in
theorem each_z {z : Nat} {p1 L : Nat} {J : Nat → HP} {l : List HP} {w : World} (hR : Sep (J 0 :: blk z [.pointer none, .slice none 0 0, .int .i64 0] 56 :: blk p1 [.pointer (some ⟨z, 0, none⟩)] 23 :: l) w) : CallR Try.prog 49 [.func (.yield L) #[] #[], .pointer (some ⟨p1, 0, none⟩)] w (fun v w' => Sep (J 0 :: blk z [.pointer none, .slice none 0 0, .int .i64 0] 56 :: blk p1 [.pointer (some ⟨z, 0, none⟩)] 23 :: l) w' ∨ Sep ((pure' False) :: blk z [.pointer none, .slice none 0 0, .int .i64 0] 56 :: blk p1 [.pointer (some ⟨z, 0, none⟩)] 23 :: l) w') := by
  refine enterX Try.func49 rfl Try.ntmps49 (Nat.le_of_ble_eq_true rfl) ?_; intro aa hS
  refine Go.wpIn_seq_k ?_; intro K603 hK603
  refine Go.wpIn_seq_k ?_; intro K604 hK604
  refine Go.wpIn_region_lit ?_
  refine xA hS hR (Yld.load1 hS rfl Try.underlying23 rfl (by first | exact Rd.blk (by repeat (first | with_reducible exact Pk.here | with_reducible apply Pk.there)) (by rfl) | exact Rd.rec (by repeat (first | with_reducible exact Pk.here | with_reducible apply Pk.there)) (by intro _; rfl) (by omega) rfl | exact Rd.rec0 (by repeat (first | with_reducible exact Pk.here | with_reducible apply Pk.there)) (by intro _; rfl) (by omega) rfl | exact Rd.flatJ (by repeat (first | with_reducible exact Pk.here | with_reducible apply Pk.there)) (by intro _; rfl) (by omega) rfl | exact Rd.flat0 (by repeat (first | with_reducible exact Pk.here | with_reducible apply Pk.there)) (by intro _; rfl) (by omega) rfl)) (by decide) ?_; clear hS; intro aa hS
  refine xB hS (Bcall hS rfl Try.call29 (lrsome_z (hR.pk (r := blk z _ _) (by repeat (first | with_reducible exact Pk.here | with_reducible apply Pk.there)))) (by decide) ?_); clear hS; intro aa ww vv hS hp; refine ⟨hS.defers, ?_⟩
  clear hR
  obtain ⟨rfl, hR⟩ := hp
  refine xA hS hR (Yld.not hS rfl) (by decide) ?_; clear hS; intro aa hS
  refine Go.wpListIn_nil ?_
  refine hK604 _ _ ?_
  refine xcondT hS rfl ?_
  refine Go.wpIn_ret ?_
  repeat (first | with_reducible refine thenR ?_ | with_reducible refine blockR ?_ | with_reducible refine scopeR ?_)
  refine xretN (fn := Try.f49) (e := .ret) [] rfl (.inl rfl) Try.results49 hS hR ?_; clear hR; intro ww hR; refine ⟨_, .nil, rfl, ?_⟩
  exact .inl (hR.sub (by repeat (first | with_reducible exact Ex.refl | (with_reducible apply Ex.take; · repeat (first | with_reducible exact Pk.here | with_reducible apply Pk.there)) | with_reducible apply Ex.drop)))
set_option maxRecDepth 20000 in
theorem lrthose_z {z : Nat} {fk : Fn} {caps : Array Value} {l : List HP} {w : World} (hR : Sep (blk z [.pointer none, .slice none 0 0, .int .i64 0] 56 :: l) w) : CallR Try.prog 27 [.pointer (some ⟨z, 0, none⟩), .func fk #[] caps] w (fun v w' => v = .slice none 0 0 ∧ Sep (blk z [.pointer none, .slice none 0 0, .int .i64 0] 56 :: l) w') := by
  refine enterX Try.func27 rfl Try.ntmps27 (Nat.le_of_ble_eq_true rfl) ?_; intro aa hS
  refine Go.wpIn_seq_k ?_; intro K605 hK605
  refine Go.wpIn_region_lit ?_
  refine xB hS (Bbox hS hR rfl (by rfl) (by decide) ?_); clear hS hR; intro aa ww bb3 hS hR; refine ⟨hS.defers, ?_⟩
  refine xA hS hR (Yld.assign hS rfl) (by decide) ?_; clear hS; intro aa hS
  refine Go.wpListIn_nil ?_
  refine hK605 _ _ ?_
  refine Go.wpIn_seq_k ?_; intro K606 hK606
  refine Go.wpIn_region_lit ?_
  refine xB hS (Balloc hS hR info27 (by rfl) (by rfl) (by decide) ?_); clear hS hR; intro aa ww bb5 hS hR; refine ⟨hS.defers, ?_⟩
  refine Go.wpListIn_nil ?_
  refine hK606 _ _ ?_
  refine Go.wpIn_seq_k ?_; intro K607 hK607
  refine Go.wpIn_seq_k ?_; intro K608 hK608
  refine Go.wpIn_region_lit ?_
  refine xA hS hR (Yld.move hS rfl) (by decide) ?_; clear hS; intro aa hS
  refine xB hS (Bcall hS rfl Try.call43 (lreach_ok hR) (by decide) ?_); clear hS; intro aa ww vv hS hp; refine ⟨hS.defers, ?_⟩
  clear hR
  obtain ⟨p1, rfl, hR⟩ := hp
  refine Go.wpListIn_nil ?_
  refine hK608 _ _ ?_
  refine Go.wpIn_block ?_
  replace hS := hS.le (T := [(3, _), (4, _), (5, _), (8, _)]) (Le.cons rfl (Le.cons rfl (Le.cons rfl (Le.cons rfl (Le.nil _)))))
  refine yrange hS hR rfl Try.call49 ?_
  intro D609 L609 lr ww hlr hR
  have hround : ∀ (Y : List HP) (i : Nat) (w : World), i < 0 → Sep ((fun i : Nat => box (fun x : Unit => True) (fun x => [lr .ready none, blk bb5 [.slice none 0 0] 27])) i :: Y) w → YieldR Try.prog L609 [.int .i64 (i : Int)] w (fun zb zw => Sep ((bif zb then (fun i : Nat => box (fun x : Unit => True) (fun x => [lr .ready none, blk bb5 [.slice none 0 0] 27])) (i + 1) else (pure' False)) :: Y) zw) := by
    intro Y i ww hi; exact absurd hi (Nat.not_lt_zero _)
  replace hR := Sep.boxI (X := Unit) (C := fun x : Unit => True) (L := fun x : Unit => [lr .ready none, blk bb5 [.slice none 0 0] 27]) () (trivial) (by dsimp only [List.cons_append, List.nil_append]; exact hR.sub (by repeat (first | with_reducible exact Ex.refl | (with_reducible apply Ex.take; · repeat (first | with_reducible exact Pk.here | with_reducible apply Pk.there)) | with_reducible apply Ex.drop)))
  refine CallR.mono (each_z (J := (fun i : Nat => box (fun x : Unit => True) (fun x => [lr .ready none, blk bb5 [.slice none 0 0] 27]))) (L := L609) (((hR.pk (r := blk p1 _ _) (by repeat (first | with_reducible exact Pk.here | with_reducible apply Pk.there))).pk (r := blk z _ _) (by repeat (first | with_reducible exact Pk.here | with_reducible apply Pk.there))).pk (r := box _ _) (by repeat (first | with_reducible exact Pk.here | with_reducible apply Pk.there)))) ?_; clear hR; rintro vv ww (hR | hR)
  ·
    obtain ⟨x0, hI, hR⟩ := hR.boxE
    try dsimp only [List.cons_append, List.nil_append] at hI hR
    refine ⟨.ready, none, _, by simp, hR, ?_⟩; clear hR; intro ww hR
    refine hK607 _ _ ?_
    refine Go.wpIn_seq_k ?_; intro K610 hK610
    refine Go.wpIn_region_lit ?_
    refine xA hS hR (Yld.load1 hS rfl Try.underlying27 rfl (by first | exact Rd.blk (by repeat (first | with_reducible exact Pk.here | with_reducible apply Pk.there)) (by rfl) | exact Rd.rec (by repeat (first | with_reducible exact Pk.here | with_reducible apply Pk.there)) (by intro _; rfl) (by omega) rfl | exact Rd.rec0 (by repeat (first | with_reducible exact Pk.here | with_reducible apply Pk.there)) (by intro _; rfl) (by omega) rfl | exact Rd.flatJ (by repeat (first | with_reducible exact Pk.here | with_reducible apply Pk.there)) (by intro _; rfl) (by omega) rfl | exact Rd.flat0 (by repeat (first | with_reducible exact Pk.here | with_reducible apply Pk.there)) (by intro _; rfl) (by omega) rfl)) (by decide) ?_; clear hS; intro aa hS
    refine xA hS hR (Yld.assign hS rfl) (by decide) ?_; clear hS; intro aa hS
    refine Go.wpListIn_nil ?_
    refine hK610 _ _ ?_
    refine Go.wpIn_ret ?_
    repeat (first | with_reducible refine thenR ?_ | with_reducible refine blockR ?_ | with_reducible refine scopeR ?_)
    replace hR := hR.pk (r := DF D609) (by repeat (first | with_reducible exact Pk.here | with_reducible apply Pk.there))
    refine xret1 (fn := Try.f27) (e := .ret) [D609] rfl (.inl rfl) Try.results27 hS hR ?_; clear hR; intro ww hR; refine ⟨_, (.tmp rfl), ?_⟩
    exact ⟨rfl, (hR.sub (by repeat (first | with_reducible exact Ex.refl | (with_reducible apply Ex.take; · repeat (first | with_reducible exact Pk.here | with_reducible apply Pk.there)) | with_reducible apply Ex.drop)))⟩
  · exact absurd (hR.pureE).1 id
set_option maxRecDepth 20000 in
theorem lrAll_z {z : Nat} {l : List HP} {w : World} (hR : Sep (blk z [.pointer none, .slice none 0 0, .int .i64 0] 56 :: l) w) : CallR Try.prog 11 [.pointer (some ⟨z, 0, none⟩)] w (fun v w' => v = .slice none 0 0 ∧ Sep (blk z [.pointer none, .slice none 0 0, .int .i64 0] 56 :: l) w') := by
  refine enter Try.func11 rfl Try.ntmps11 (Nat.le_of_ble_eq_true rfl) ?_; intro aa hS
  refine wp_seq_k ?_; intro K611 hK611
  refine wp_region_lit ?_
  refine sA hS hR (Yld.assign hS rfl) (by decide) ?_; clear hS; intro aa hS
  refine wpList_nil ?_
  refine hK611 _ _ ?_
  refine wp_seq_k ?_; intro K612 hK612
  refine wp_region_lit ?_
  refine sA hS hR (Yld.move hS rfl) (by decide) ?_; clear hS; intro aa hS
  refine sB (Bcall hS rfl Try.call27 (lrthose_z (hR.pk (r := blk z _ _) (by repeat (first | with_reducible exact Pk.here | with_reducible apply Pk.there)))) (by decide) ?_); clear hS; intro aa ww vv hS hp
  clear hR
  obtain ⟨rfl, hR⟩ := hp
  refine sA hS hR (Yld.assign hS rfl) (by decide) ?_; clear hS; intro aa hS
  refine wpList_nil ?_
  refine hK612 _ _ ?_
  refine wp_ret ?_
  repeat (first | with_reducible refine thenR ?_ | with_reducible refine blockR ?_ | with_reducible refine scopeR ?_)
  refine ret1 (fn := Try.f11) (e := .ret) (.inl rfl) Try.results11 hS hR ⟨_, (.tmp rfl), ?_⟩
  exact ⟨rfl, (hR.sub (by repeat (first | with_reducible exact Ex.refl | (with_reducible apply Ex.take; · repeat (first | with_reducible exact Pk.here | with_reducible apply Pk.there)) | with_reducible apply Ex.drop)))⟩
set_option maxRecDepth 20000 in
theorem lrSince_z {z : Nat} {i : Int} {l : List HP} {w : World} (hR : Sep (blk z [.pointer none, .slice none 0 0, .int .i64 0] 56 :: l) w) : CallR Try.prog 17 [.pointer (some ⟨z, 0, none⟩), .int .i64 i] w (fun v w' => v = .slice none 0 0 ∧ Sep (blk z [.pointer none, .slice none 0 0, .int .i64 0] 56 :: l) w') := by
  refine enter Try.func17 rfl Try.ntmps17 (Nat.le_of_ble_eq_true rfl) ?_; intro aa hS
  refine wp_seq_k ?_; intro K613 hK613
  refine wp_region_lit ?_
  refine sB (Bbox hS hR rfl (by rfl) (by decide) ?_); clear hS hR; intro aa ww bb2 hS hR
  refine sB (Bbox hS hR rfl (by rfl) (by decide) ?_); clear hS hR; intro aa ww bb3 hS hR
  refine sA hS hR (Yld.assign hS rfl) (by decide) ?_; clear hS; intro aa hS
  refine wpList_nil ?_
  refine hK613 _ _ ?_
  refine wp_seq_k ?_; intro K614 hK614
  refine wp_region_lit ?_
  refine sA hS hR (Yld.load1 hS rfl Try.underlying23 rfl (by first | exact Rd.blk (by repeat (first | with_reducible exact Pk.here | with_reducible apply Pk.there)) (by rfl) | exact Rd.rec (by repeat (first | with_reducible exact Pk.here | with_reducible apply Pk.there)) (by intro _; rfl) (by omega) rfl | exact Rd.rec0 (by repeat (first | with_reducible exact Pk.here | with_reducible apply Pk.there)) (by intro _; rfl) (by omega) rfl | exact Rd.flatJ (by repeat (first | with_reducible exact Pk.here | with_reducible apply Pk.there)) (by intro _; rfl) (by omega) rfl | exact Rd.flat0 (by repeat (first | with_reducible exact Pk.here | with_reducible apply Pk.there)) (by intro _; rfl) (by omega) rfl)) (by decide) ?_; clear hS; intro aa hS
  refine sA hS hR (Yld.makeFunc hS rfl rfl) (by decide) ?_; clear hS; intro aa hS
  refine sB (Bcall hS rfl Try.call27 (lrthose_z (hR.pk (r := blk z _ _) (by repeat (first | with_reducible exact Pk.here | with_reducible apply Pk.there)))) (by decide) ?_); clear hS; intro aa ww vv hS hp
  clear hR
  obtain ⟨rfl, hR⟩ := hp
  refine sA hS hR (Yld.assign hS rfl) (by decide) ?_; clear hS; intro aa hS
  refine wpList_nil ?_
  refine hK614 _ _ ?_
  refine wp_ret ?_
  repeat (first | with_reducible refine thenR ?_ | with_reducible refine blockR ?_ | with_reducible refine scopeR ?_)
  refine ret1 (fn := Try.f17) (e := .ret) (.inl rfl) Try.results17 hS hR ⟨_, (.tmp rfl), ?_⟩
  exact ⟨rfl, (hR.sub (by repeat (first | with_reducible exact Ex.refl | (with_reducible apply Ex.take; · repeat (first | with_reducible exact Pk.here | with_reducible apply Pk.there)) | with_reducible apply Ex.drop)))⟩
end Go.Proofs.Ytojeibjlkbffcaa.Sx
