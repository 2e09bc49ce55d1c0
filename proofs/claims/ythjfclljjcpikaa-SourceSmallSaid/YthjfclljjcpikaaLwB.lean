/-
 
-/
import Derived.Test.YthjfclljjcpikaaLwA
namespace Go.Proofs.Ythjfclljjcpikaa.Sx
open Go
set_option linter.unusedVariables false
set_option linter.unusedSimpArgs false

theorem info30 : Try.prog.info? 30 = some Try.t30 := by kernel_rfl

set_option maxRecDepth 20000 in
theorem modulo_ok {n m : Int} {l : List HP} {w : World} (hm : 1 ≤ m ∧ m ≤ 8192) (hR : Sep l w) : CallR Try.prog 30 [.int .i64 n, .int .i64 m] w (fun v w' => v = .int .i64 (n % m) ∧ Sep l w') := by
 refine enter Try.func30 rfl Try.ntmps30 (Nat.le_of_ble_eq_true rfl) ?_; intro aa hS
 have hab := tmod_abs (n := n) (b := m) (by omega)
 refine wp_seq_k ?_; intro K543 hK543
 refine wp_region_lit ?_
 revert aa
 refine qN hR ?_
 intro aa hS
 refine wpList_nil ?_
 refine hK543 _ _ ?_
 refine wp_seq_k ?_; intro K544 hK544
 refine wp_region_lit ?_
 revert aa
 refine qM hR ?_
 refine qM hR ?_
 refine qA hR rfl (fun _ hS => Yld.rem hS rfl rfl (by omega)) ?_
 refine qM hR ?_
 intro aa hS
 refine sA hS hR adQ (by decide) ?_; clear hS; intro aa hS
 revert aa
 refine qM hR ?_
 refine qA hR rfl (fun _ hS => by first | exact Yld.rem64 hS rfl rfl (by omega) | exact Yld.rem hS rfl rfl (by omega)) ?_
 refine qN hR ?_
 intro aa hS
 refine wpList_nil ?_
 refine hK544 _ _ ?_
 refine wp_ret ?_
 repeat first | with_reducible refine thenR ?_ | with_reducible refine blockR ?_ | with_reducible refine scopeR ?_
 refine ret1 (fn := Try.f30) (e := .ret) (.inl rfl) Try.results30 hS hR ⟨_, (.tmp rfl), ?_⟩
 refine ⟨?_, (hR.sub exQ)⟩
 rw [mod2 (by omega)]
set_option maxRecDepth 20000 in
theorem fresh31_ok {a b0 : Int} {l : List HP} {w : World} (ha : 0 ≤ a ∧ a ≤ 255) (hb0 : 0 ≤ b0 ∧ b0 ≤ 255) (hR : Sep l w) : CallR Try.prog 11 [.int .u8 a, .int .u8 b0] w (fun v w' => ∃ b S lim : Nat, v = .tuple [.pointer (some ⟨b, 0, none⟩), .int .i64 (S : Int), .int .i64 (lim : Int)].toArray ∧ (S : Int) = 1 + a % 60 ∧ (lim : Int) = 1 + b0 % 10 ∧ Sep (sourceA ss b S lim (T0 S) :: l) w') := by
 refine enter Try.func11 rfl Try.ntmps11 (Nat.le_of_ble_eq_true rfl) ?_; intro aa hS
 refine wp_seq_k ?_; intro K545 hK545
 refine wp_region_lit ?_
 revert aa
 refine qN hR ?_
 refine qN hR ?_
 refine qN hR ?_
 intro aa hS
 refine wpList_nil ?_
 refine hK545 _ _ ?_
 refine wp_seq_k ?_; intro K546 hK546
 refine wp_region_lit ?_
 revert aa
 refine qM hR ?_
 refine qA hR rfl (fun _ hS => by first | exact Yld.to (Yld.convInt hS rfl rfl Try.underlying3) (congrArg (Value.int .i64) (IntWalk.i64_in _ (by omega))) | exact Yld.convInt hS rfl rfl Try.underlying3) ?_
 refine qA hR rfl (fun _ hS => by first | exact Yld.rem64 hS rfl rfl (by omega) | exact Yld.rem hS rfl rfl (by omega)) ?_
 intro aa hS
 refine sA hS hR adQ (by decide) ?_; clear hS; intro aa hS
 obtain ⟨m, hm, bm⟩ : ∃ y : Nat, 1 + a % 60 = (y : Int) ∧ 1 ≤ y ∧ y ≤ 60 := ⟨(1 + a % 60).toNat, by omega, by omega⟩
 replace hS := hS.say (t := 14) (.int .i64 (m : Int)) rfl (by rw [hm])
 revert aa
 refine qM hR ?_
 refine qA hR rfl (fun _ hS => by first | exact Yld.to (Yld.convInt hS rfl rfl Try.underlying3) (congrArg (Value.int .i64) (IntWalk.i64_in _ (by omega))) | exact Yld.convInt hS rfl rfl Try.underlying3) ?_
 refine qA hR rfl (fun _ hS => by first | exact Yld.rem64 hS rfl rfl (by omega) | exact Yld.rem hS rfl rfl (by omega)) ?_
 intro aa hS
 refine sA hS hR adQ (by decide) ?_; clear hS; intro aa hS
 obtain ⟨k, hk, bk⟩ : ∃ y : Nat, 1 + b0 % 10 = (y : Int) ∧ 1 ≤ y ∧ y ≤ 10 := ⟨(1 + b0 % 10).toNat, by omega, by omega⟩
 replace hS := hS.say (t := 18) (.int .i64 (k : Int)) rfl (by rw [hk])
 revert aa
 refine qN hR ?_
 refine qN hR ?_
 intro aa hS
 refine wpList_nil ?_
 refine hK546 _ _ ?_
 refine wp_seq_k ?_; intro K547 hK547
 refine wp_region_lit ?_
 revert aa
 refine qM hR ?_
 refine qM hR ?_
 intro aa hS
 refine sB (Bcall hS rfl Try.call16 (soNew_ok (S := m) (lim := k) hR (by omega) (by omega) (by omega) (by omega)) (by decide) ?_); clear hS; intro aa ww vv hS hp
 clear hR
 obtain ⟨b, rfl, hR⟩ := hp
 revert aa
 refine qM hR ?_
 refine qX hR ?_
 refine qX hR ?_
 refine qN hR ?_
 refine qN hR ?_
 intro aa hS
 refine wpList_nil ?_
 refine hK547 _ _ ?_
 refine wp_seq_k ?_; intro K548 hK548
 refine wp_region_lit ?_
 revert aa
 refine qM hR ?_
 refine qM hR ?_
 refine qM hR ?_
 refine qN hR ?_
 refine qN hR ?_
 refine qN hR ?_
 intro aa hS
 refine wpList_nil ?_
 refine hK548 _ _ ?_
 refine wp_ret ?_
 repeat first | with_reducible refine thenR ?_ | with_reducible refine blockR ?_ | with_reducible refine scopeR ?_
 refine retN (fn := Try.f11) (e := .ret) (.inl rfl) Try.results11 hS hR ⟨_, .cons (.tmp rfl) (.cons (.tmp rfl) (.cons (.tmp rfl) (.nil))), rfl, ?_⟩
 exact ⟨b, m, k, rfl, hm.symm, hk.symm, (hR.sub exQ)⟩
set_option maxHeartbeats 1000000 in
set_option maxRecDepth 20000 in
theorem act31_ok {T : So} {S lim b : Nat} {k a z : Int} {l : List HP} {w : World} (h1 : 1 ≤ S) (h2 : S ≤ 4096) (hk : 0 ≤ k ∧ k ≤ 255) (ha : 0 ≤ a ∧ a ≤ 4294967295) (hR : Sep (sourceA ss b S lim T :: l) w) : CallR Try.prog 12 [.pointer (some ⟨b, 0, none⟩), .int .i64 (S : Int), .agg [.int .u8 k, .int .u32 a, .int .i64 z].toArray] w (fun v w' => v = .tuple [.int .u32 (actA S T k a z), .int .i64 (z % S), .int .i64 (actE S lim T k a z)].toArray ∧ Sep (sourceA ss b S lim (actN S lim T k a z) :: l) w') := by
 refine enter Try.func12 rfl Try.ntmps12 (Nat.le_of_ble_eq_true rfl) ?_; intro aa hS
 refine wp_seq_k ?_; intro K549 hK549
 refine wp_region_lit ?_
 refine sB (Bbox hS hR rfl (by rfl) (by decide) ?_); clear hS hR; intro aa ww bb5 hS hR
 revert aa
 refine qN hR ?_
 refine qN hR ?_
 refine qN hR ?_
 intro aa hS
 refine wpList_nil ?_
 refine hK549 _ _ ?_
 refine wp_seq_k ?_; intro K550 hK550
 refine drawn (by kernel_rfl) hR Ex.refl ?_; clear hR; intro ww hR hR0
 revert aa
 refine eA 0 rfl (by kernel_rfl) (fun _ _ _ h => h) hR0 rfl (fun _ hS => Yld.fieldAddr hS rfl 1 Try.underlying30 rfl rfl info28 (by decide)) ?_
 refine eA 1 rfl (by kernel_rfl) (fun _ _ _ h => h) hR0 rfl (fun _ hS => Yld.load1 hS rfl Try.underlying28 rfl rdQ) ?_
 refine eA 2 rfl (by kernel_rfl) (fun _ _ _ h => h) hR0 rfl (fun _ hS => by first | exact Yld.rem64 hS rfl rfl (by omega) | exact Yld.rem hS rfl rfl (by omega)) ?_
 refine eA 3 rfl (by kernel_rfl) (fun _ _ _ h => h) hR0 rfl (fun _ hS => Yld.fieldAddr hS rfl 2 Try.underlying30 rfl rfl info3 (by decide)) ?_
 refine eA 4 rfl (by kernel_rfl) (fun _ _ _ h => h) hR0 rfl (fun _ hS => Yld.load1 hS rfl Try.underlying3 rfl rdQ) ?_
 refine eA 5 rfl (by kernel_rfl) (fun _ _ _ h => h) hR0 rfl (fun _ hS => Yld.move hS rfl) ?_
 intro aa hS
 refine dOne (i := 6) (by kernel_rfl) ?_
 refine dop rfl (Bcall hS rfl Try.call30 (modulo_ok (n := z) (m := (S : Int)) (by omega) hR) (by decide) ?_); clear hS; intro aa ww vv hS hp
 clear hR hR0
 obtain ⟨rfl, hR⟩ := hp
 refine dnext (hR.sub exQ) ?_; intro hR0
 revert aa
 refine eA 7 rfl (by kernel_rfl) (fun _ _ _ h => h) hR0 rfl (fun _ hS => Yld.assign hS rfl) ?_
 refine eA 8 rfl (by kernel_rfl) (fun _ _ _ h => h) hR0 rfl (fun _ hS => Yld.assign hS rfl) ?_
 intro aa hS
 refine wpAnyH_done (by kernel_rfl) ?_ _; clear hR0
 refine hK550 _ _ ?_
 refine wp_seq_k ?_; intro K551 hK551
 refine wp_seq_k ?_; intro K552 hK552
 refine wp_region_lit ?_
 revert aa
 refine qA hR rfl (fun _ hS => Yld.fieldAddr hS rfl 0 Try.underlying30 rfl rfl info5 (by decide)) ?_
 refine qA hR rfl (fun _ hS => Yld.load1 hS rfl Try.underlying5 rfl rdQ) ?_
 refine qA hR rfl (fun _ hS => by first | exact Yld.rem64 hS rfl rfl (by omega) | exact Yld.rem hS rfl rfl (by omega)) ?_
 refine qA hR rfl (fun _ hS => Yld.eql hS rfl rfl) ?_
 intro aa hS
 refine wpList_nil ?_
 refine hK552 _ _ ?_
 refine hS.splitB (t := 22) rfl ?_ ?_ <;> clear hS
 ·
  intro hg hS
  refine condT hS rfl ?_
  refine wp_seq_k ?_; intro K553 hK553
  refine wp_region_lit ?_
  revert aa
  refine qM hR ?_
  refine qM hR ?_
  refine qM hR ?_
  refine qM hR ?_
  refine qM hR ?_
  intro aa hS
  refine sB (Bcall hS rfl Try.call17 (soOpen_ok (a := a % 8) (x := z % S) (by omega) (hR.pk (r := sourceA _ b _ _ _) pkQ)) (by decide) ?_); clear hS; intro aa ww vv hS hp
  clear hR
  obtain ⟨rfl, hR⟩ := hp
  revert aa
  refine qN hR ?_
  refine qN hR ?_
  refine qN hR ?_
  intro aa hS
  refine wpList_nil ?_
  refine hK553 _ _ ?_
  refine wp_ret ?_
  repeat first | with_reducible refine thenR ?_ | with_reducible refine blockR ?_ | with_reducible refine scopeR ?_
  refine retN (fn := Try.f12) (e := .ret) (.inl rfl) Try.results12 hS hR ⟨_, .cons (.tmp rfl) (.cons (.tmp rfl) (.cons (.tmp rfl) (.nil))), rfl, ?_⟩
  try dsimp only [lay, List.set] at hR
  obtain ⟨e1, e2, e3⟩ := act_open (S := S) (lim := lim) (T := T) (k := k) (a := a) (z := z) hg
  rw [e1, e2, e3]
  exact ⟨rfl, (hR.sub exQ)⟩
 ·
  intro hg hS
  refine condF hS rfl ?_
  refine wp_skip ?_
  refine hK551 _ _ ?_
  refine wp_seq_k ?_; intro K554 hK554
  refine wp_region_lit ?_
  revert aa
  refine qM hR ?_
  refine qM hR ?_
  intro aa hS
  refine sB (Bcall hS rfl Try.call20 (soClose_ok (x := z % S) (hR.pk (r := sourceA _ b _ _ _) pkQ)) (by decide) ?_); clear hS; intro aa ww vv hS hp
  clear hR
  obtain ⟨rfl, hR⟩ := hp
  revert aa
  refine qM hR ?_
  refine qX hR ?_
  refine qX hR ?_
  refine qN hR ?_
  refine qN hR ?_
  intro aa hS
  refine wpList_nil ?_
  refine hK554 _ _ ?_
  refine wp_seq_k ?_; intro K555 hK555
  refine wp_region_lit ?_
  revert aa
  refine qM hR ?_
  refine qM hR ?_
  refine qM hR ?_
  refine qN hR ?_
  refine qN hR ?_
  refine qN hR ?_
  intro aa hS
  refine wpList_nil ?_
  refine hK555 _ _ ?_
  refine wp_ret ?_
  repeat first | with_reducible refine thenR ?_ | with_reducible refine blockR ?_ | with_reducible refine scopeR ?_
  refine retN (fn := Try.f12) (e := .ret) (.inl rfl) Try.results12 hS hR ⟨_, .cons (.tmp rfl) (.cons (.tmp rfl) (.cons (.tmp rfl) (.nil))), rfl, ?_⟩
  try dsimp only [lay, List.set] at hR
  obtain ⟨e1, e2, e3⟩ := act_close (S := S) (lim := lim) (T := T) (k := k) (a := a) (z := z) hg
  rw [e1, e2, e3]
  exact ⟨rfl, (hR.sub exQ)⟩
set_option maxHeartbeats 1000000 in
set_option maxRecDepth 20000 in
theorem made31_ok {W : World} {q : Option Addr} {n c : Nat} {a b0 : Int} {xs : List (List Int)} (A1 : ArgS W [.u8, .u32, .i64] q n c xs) {l : List HP} {w : World} (ha : 0 ≤ a ∧ a ≤ 255) (hb0 : 0 ≤ b0 ∧ b0 ≤ 255) (hR : Sep (old W :: l) w) : CallR Try.prog 25 [.int .u8 a, .int .u8 b0, .slice q n c] w (fun v w' => ∃ b S lim : Nat, v = .pointer (some ⟨b, 0, none⟩) ∧ (S : Int) = 1 + a % 60 ∧ (lim : Int) = 1 + b0 % 10 ∧ Sep (sourceA ss b S lim (fT S lim xs (min n 100)) :: old W :: l) w') := by
 refine enter Try.func25 rfl Try.ntmps25 (Nat.le_of_ble_eq_true rfl) ?_; intro aa hS
 have hcap := A1.cap
 refine wp_seq_k ?_; intro K556 hK556
 refine wp_region_lit ?_
 revert aa
 refine qN hR ?_
 intro aa hS
 refine wpList_nil ?_
 refine hK556 _ _ ?_
 refine wp_seq_k ?_; intro K557 hK557
 refine wp_region_lit ?_
 revert aa
 refine qM hR ?_
 refine qM hR ?_
 intro aa hS
 refine sB (Bcall hS rfl Try.call11 (fresh31_ok ha hb0 hR) (by decide) ?_); clear hS; intro aa ww vv hS hp
 clear hR
 obtain ⟨b, S, lim, rfl, hSe, hle, hR⟩ := hp
 revert aa
 refine qM hR ?_
 refine qX hR ?_
 refine qX hR ?_
 refine qX hR ?_
 refine qN hR ?_
 refine qN hR ?_
 refine qN hR ?_
 intro aa hS
 refine wpList_nil ?_
 refine hK557 _ _ ?_
 refine wp_seq_k ?_; intro K558 hK558
 refine wp_seq_k ?_; intro K559 hK559
 refine wp_region_lit ?_
 revert aa
 refine qM hR ?_
 refine qA hR rfl (fun _ hS => Yld.eqlNil hS rfl rfl Try.underlying24) ?_
 refine qB (t := 20) false rfl (by rfl) ?_
 intro aa hS
 refine wpList_nil ?_
 refine hK559 _ _ ?_
 refine condF hS rfl ?_
 refine wp_skip ?_
 refine hK558 _ _ ?_
 refine wp_seq_k ?_; intro K560 hK560
 refine wp_seq_k ?_; intro K561 hK561
 refine wp_region_lit ?_
 revert aa
 refine qM hR ?_
 refine qM hR ?_
 refine qA hR rfl (fun _ hS => Yld.len hS rfl Try.underlying22) ?_
 refine qA hR rfl (fun _ hS => Yld.min hS rfl rfl) ?_
 refine qA hR rfl (fun _ hS => Yld.sliceHi hS rfl rfl Try.underlying22 info30 (by omega) (by omega)) ?_
 intro aa hS
 obtain ⟨mm, hmm0, hmm1⟩ : ∃ y : Nat, (Min.min (n : Int) 100).toNat = y ∧ y ≤ n ∧ y ≤ 100 := ⟨_, rfl, by omega, by omega⟩
 replace hS := hS.say (t := 25) (.slice q mm c) rfl (by rw [hmm0])
 revert aa
 refine qA hR rfl (fun _ hS => Yld.len hS rfl Try.underlying22) ?_
 refine qM hR ?_
 intro aa hS
 refine wpList_nil ?_
 refine hK561 _ _ ?_
 refine wp_block ?_
 rw [show T0 S = fT S lim xs 0 from fT_zero.symm] at hR
 replace hR := hR.pk (r := sourceA ss b S lim (fT S lim xs 0)) pkQ
 refine loopI (X := Nat) [(6, _), (7, _), (8, _), (25, _), (26, _)] (fun x => [(27, .int .i64 (x : Int))]) (fun x => [sourceA ss b S lim (fT S lim xs x)]) _ (fun x => x ≤ mm) (fun x => mm - x) 0 (Nat.zero_le _) (hS.le (Le.cons rfl (Le.nilapp (Le.cons rfl (Le.cons rfl (Le.cons rfl (Le.cons rfl (Le.cons rfl (Le.nil _))))))))) hR ?_
 clear hS hR; rintro k aa ww hI hS hR; dsimp only [List.cons_append, List.nil_append] at hI hS hR
 refine wp_seq_k ?_; intro K563 hK563
 refine wp_region_lit ?_
 refine sA hS hR (Yld.lss hS rfl rfl) (by decide) ?_; clear hS; intro aa hS
 refine wpList_nil ?_
 refine hK563 _ _ ?_
 refine wp_seq_k ?_; intro K564 hK564
 refine hS.splitB (t := 28) rfl ?_ ?_ <;> clear hS
 ·
  intro hg hS
  refine condT hS rfl ?_
  refine wp_skip ?_
  refine hK564 _ _ ?_
  refine wp_seq_k ?_; intro K565 hK565
  refine wp_block ?_
  refine wp_seq_k ?_; intro K566 hK566
  refine wp_region_lit ?_
  obtain ⟨ba, ia, ns, hq, hx, hl, hw, hc⟩ := A1.at (k := k) (by omega)
  obtain ⟨s0, s1, s2, rfl⟩ := len3 hl
  subst hq
  have hw0 : 0 ≤ s0 ∧ s0 ≤ 255 := hw.1
  have hw1 : 0 ≤ s1 ∧ s1 ≤ 4294967295 := hw.2.1
  revert aa
  refine qA hR rfl (fun _ hS => by first | exact Yld.indexL (sz := 3) _ hS rfl rfl Try.underlying22 info30 pkQ rfl rfl (by omega) | exact Yld.indexB (sz := 3) _ hS rfl rfl Try.underlying22 info30 rfl rfl (by omega) | exact Yld.indexSlice hS rfl rfl Try.underlying22 info30 (by omega) (by omega)) ?_
  refine qA hR rfl (fun _ hS => Yld.loadAgg (vs := [.int .u8 s0, .int .u32 s1, .int .i64 s2]) hS rfl Try.underlying30 rfl info30 (Rds.at (Rds.old pkQ hc) (by rfl)) (by rfl)) ?_
  intro aa hS
  refine sB (Balloc hS hR info30 (by rfl) (by rfl) (by decide) ?_); clear hS hR; intro aa ww bb11 hS hR
  refine sB (Bstore hS hR rfl rfl (by rfl) info30 (by rfl) pkQ (by rfl) (Nat.le_of_ble_eq_true rfl) ?_); clear hR; intro ww hR
  refine wpList_nil ?_
  refine hK566 _ _ ?_
  refine wp_region_lit ?_
  revert aa
  refine qM hR ?_
  refine qM hR ?_
  intro aa hS
  refine sA hS hR (Yld.loadAgg hS rfl Try.underlying30 rfl info30 rdsQ3 (by rfl)) (by decide) ?_; clear hS; intro aa hS
  refine sB (Bcall hS rfl Try.call12 (act31_ok (k := s0) (a := s1) (z := s2) (by omega) (by omega) hw0 hw1 (hR.pk (r := sourceA _ b _ _ _) pkQ)) (by decide) ?_); clear hS; intro aa ww vv hS hp
  clear hR
  obtain ⟨rfl, hR⟩ := hp
  rw [← fT_succ hx] at hR
  refine wpList_nil ?_
  refine hK565 _ _ ?_
  refine wp_region_lit ?_
  refine sA hS hR adQ (by decide) ?_; clear hS; intro aa hS
  revert aa
  refine qM hR ?_
  intro aa hS
  refine wpList_nil ?_
  
  refine ⟨k + 1, ?_, ?_, hS.le (Le.cons rfl (Le.nilapp (Le.cons rfl (Le.cons rfl (Le.cons rfl (Le.cons rfl (Le.cons rfl (Le.nil _)))))))), hR.sub (Ex.take pkQ (Ex.nilapp exQ))⟩
  ·
   omega
  ·
   omega
 ·
  intro hg hS
  obtain rfl : mm = k := by omega
  obtain rfl : mm = min n 100 := by omega
  refine condF hS rfl ?_
  refine wp_exit ?_
  refine hK560 _ _ ?_
  refine wp_seq_k ?_; intro K567 hK567
  refine wp_region_lit ?_
  revert aa
  refine qM hR ?_
  refine qN hR ?_
  intro aa hS
  refine wpList_nil ?_
  refine hK567 _ _ ?_
  refine wp_ret ?_
  repeat first | with_reducible refine thenR ?_ | with_reducible refine blockR ?_ | with_reducible refine scopeR ?_
  refine ret1 (fn := Try.f25) (e := .ret) (.inl rfl) Try.results25 hS hR ⟨_, (.tmp rfl), ?_⟩
  exact ⟨b, S, lim, rfl, hSe, hle, (hR.sub exQ)⟩
end Go.Proofs.Ythjfclljjcpikaa.Sx
