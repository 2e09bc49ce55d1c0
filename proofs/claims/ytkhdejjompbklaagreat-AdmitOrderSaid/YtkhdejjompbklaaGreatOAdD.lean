/-
 
-/
import Derived.Test.YtkhdejjompbklaaGreatOAdC
namespace Go.Proofs.YtkhdejjompbklaaGreat.Sx
open Go
set_option maxRecDepth 20000
set_option linter.unusedVariables false
set_option linter.unusedSimpArgs false
theorem info28 : Tryz.prog.info? 28 = some Tryz.t28 := by kernel_rfl
theorem info43 : Tryz.prog.info? 43 = some Tryz.t43 := by kernel_rfl
theorem info61 : Tryz.prog.info? 61 = some Tryz.t61 := by kernel_rfl
theorem info101 : Tryz.prog.info? 101 = some Tryz.t101 := by kernel_rfl
theorem bld101_0_1 (x0 : Int) (x1_f : Fn) (x1_i x1_c : Array Value) (w : World) : (Instr.build 101 [(0, .int .u8 x0), (1, .func x1_f x1_i x1_c)].toArray).run Tryz.prog w = .ok (.agg [.int .u8 x0, .func x1_f x1_i x1_c].toArray) w := by kernel_rfl
theorem bld43_  (w : World) : (Instr.build 43 [].toArray).run Tryz.prog w = .ok (.agg [.int .u8 0, .int .i64 0, .int .i64 0, .bool false].toArray) w := by kernel_rfl
theorem bld43_0 (x0 : Int) (w : World) : (Instr.build 43 [(0, .int .u8 x0)].toArray).run Tryz.prog w = .ok (.agg [.int .u8 x0, .int .i64 0, .int .i64 0, .bool false].toArray) w := by kernel_rfl
theorem bls102_3_0_1_2 (x0_0 : Int) (x0_1_f : Fn) (x0_1_i x0_1_c : Array Value) (x1_0 : Int) (x1_1_f : Fn) (x1_1_i x1_1_c : Array Value) (x2_0 : Int) (x2_1_f : Fn) (x2_1_i x2_1_c : Array Value) (w : World) : (Instr.buildSlice 102 3 [(0, .agg [.int .u8 x0_0, .func x0_1_f x0_1_i x0_1_c].toArray), (1, .agg [.int .u8 x1_0, .func x1_1_f x1_1_i x1_1_c].toArray), (2, .agg [.int .u8 x2_0, .func x2_1_f x2_1_i x2_1_c].toArray)].toArray).run Tryz.prog w = .ok (.slice (some ⟨w.heap.size, 0, none⟩) 3 3) (w.alloc (.cells ([.int .u8 x0_0, .func x0_1_f x0_1_i x0_1_c, .int .u8 x1_0, .func x1_1_f x1_1_i x1_1_c, .int .u8 x2_0, .func x2_1_f x2_1_i x2_1_c] : List Value).toArray 101)) := by kernel_rfl
theorem adTry_bad {t p u : Int} {S lim b : Nat} {l : List HP} {w : World} {D : Dk} {n a : Int} (hb : n < D.now ∨ 1099511627776 < n) (hR : Sep (deskA dd b S lim (t, p, u) D :: l) w) : CallR Tryz.prog 20 [.pointer (some ⟨b, 0, none⟩), .int .i64 n, .int .u32 a] w (fun v w' => v = .tuple [.agg [.int .u8 0, .int .i64 0, .int .i64 0, .bool false].toArray, .int .i64 2].toArray ∧ Sep (deskA dd b S lim (t, p, u) D :: l) w') := by
 refine enter Tryz.func20 rfl Tryz.ntmps20 (Nat.le_of_ble_eq_true rfl) ?_; intro aa hS
 obtain ⟨ba, bs, bo, r, c, hR⟩ := hR.deskE
 dsimp only at hR
 refine wp_seq_k ?_; intro K749 hK749
 refine wp_region_lit ?_
 refine sB (Bbox hS hR rfl (by rfl) (by decide) ?_); clear hS hR; intro aa ww bb3 hS hR
 refine sB (Bbox hS hR rfl (by rfl) (by decide) ?_); clear hS hR; intro aa ww bb5 hS hR
 refine sB (Balloc hS hR info43 (by rfl) (by rfl) (by decide) ?_); clear hS hR; intro aa ww bb6 hS hR
 revert aa
 refine qN hR ?_
 intro aa hS
 refine wpList_nil ?_
 refine hK749 _ _ ?_
 refine wp_seq_k ?_; intro K750 hK750
 refine wp_block ?_
 refine wp_seq_k ?_; intro K751 hK751
 refine wp_region_lit ?_
 refine sA hS hR (Yld.load1 hS rfl Tryz.underlying29 rfl rdQ) (by decide) ?_; clear hS; intro aa hS
 refine sB (Bcall hS rfl Tryz.call36 (adnone_ok (hR.pk (r := blk b _ 59) pkQ)) (by decide) ?_); clear hS; intro aa ww vv hS hp
 clear hR
 obtain ⟨rfl, hR⟩ := hp
 revert aa
 refine qN hR ?_
 intro aa hS
 refine wpList_nil ?_
 refine hK751 _ _ ?_
 refine condF hS rfl ?_
 refine wp_seq_k ?_; intro K752 hK752
 refine wp_region_lit ?_
 revert aa
 refine qM hR ?_
 refine qA hR rfl (fun _ hS => Yld.load1 hS rfl Tryz.underlying29 rfl rdQ) ?_
 refine qA hR rfl (fun _ hS => Yld.nilCheck hS rfl) ?_
 refine qA hR rfl (fun _ hS => Yld.fieldAddr hS rfl 9 Tryz.underlying59 rfl rfl info3 (by decide)) ?_
 refine qA hR rfl (fun _ hS => Yld.load1 hS rfl Tryz.underlying3 rfl rdQ) ?_
 refine qA hR rfl (fun _ hS => Yld.lss hS rfl rfl) ?_
 refine qM hR ?_
 intro aa hS
 refine hS.splitB (t := 27) rfl ?_ ?_ <;> clear hS
 ·
  intro hg hS
  revert aa
  refine qZ ?_
  refine qZ ?_
  refine qA hR rfl (fun _ hS => Yld.pickT hS rfl rfl) ?_
  refine qN hR ?_
  intro aa hS
  refine wpList_nil ?_
  refine hK752 _ _ ?_
  refine condT hS rfl ?_
  refine wp_seq_k ?_; intro K753 hK753
  refine wp_region_lit ?_
  refine sA hS hR (Yld.build hS rfl (bld43_)) (by decide) ?_; clear hS; intro aa hS
  refine sB (Bstore hS hR rfl rfl (by rfl) info43 (by rfl) pkQ (by rfl) (Nat.le_of_ble_eq_true rfl) ?_); clear hR; intro ww hR
  revert aa
  refine qN hR ?_
  intro aa hS
  refine wpList_nil ?_
  refine hK753 _ _ ?_
  refine wp_ret ?_
  repeat first | with_reducible refine thenR ?_ | with_reducible refine blockR ?_ | with_reducible refine scopeR ?_
  refine retN (fn := Tryz.f20) (e := .ret) (.inl rfl) Tryz.results20 hS hR ⟨_, .cons (.agg rfl Tryz.underlying43 rfl info43 (Rds.cons (Rd.blk pkQ (by rfl)) (Rds.cons (Rd.blk pkQ (by rfl)) (Rds.cons (Rd.blk pkQ (by rfl)) (Rds.cons (Rd.blk pkQ (by rfl)) (Rds.nil))))) (by rfl)) (.cons (.tmp rfl) (.nil)), rfl, ?_⟩
  exact ⟨rfl, Sep.deskI (t := dd) (b := b) (hR.sub exQ)⟩
 ·
  intro hg hS
  revert aa
  refine qMg hR ?_
  refine qAg hR rfl rfl rfl (fun _ hS => Yld.gtr hS rfl rfl) ?_
  refine qA hR rfl (fun _ hS => Yld.pickF hS rfl rfl) ?_
  refine qN hR ?_
  intro aa hS
  refine wpList_nil ?_
  refine hK752 _ _ ?_
  refine hS.splitB (t := 20) rfl ?_ ?_ <;> clear hS
  ·
   intro hg hS
   refine condT hS rfl ?_
   refine wp_seq_k ?_; intro K754 hK754
   refine wp_region_lit ?_
   refine sA hS hR (Yld.build hS rfl (bld43_)) (by decide) ?_; clear hS; intro aa hS
   refine sB (Bstore hS hR rfl rfl (by rfl) info43 (by rfl) pkQ (by rfl) (Nat.le_of_ble_eq_true rfl) ?_); clear hR; intro ww hR
   revert aa
   refine qN hR ?_
   intro aa hS
   refine wpList_nil ?_
   refine hK754 _ _ ?_
   refine wp_ret ?_
   repeat first | with_reducible refine thenR ?_ | with_reducible refine blockR ?_ | with_reducible refine scopeR ?_
   refine retN (fn := Tryz.f20) (e := .ret) (.inl rfl) Tryz.results20 hS hR ⟨_, .cons (.agg rfl Tryz.underlying43 rfl info43 (Rds.cons (Rd.blk pkQ (by rfl)) (Rds.cons (Rd.blk pkQ (by rfl)) (Rds.cons (Rd.blk pkQ (by rfl)) (Rds.cons (Rd.blk pkQ (by rfl)) (Rds.nil))))) (by rfl)) (.cons (.tmp rfl) (.nil)), rfl, ?_⟩
   exact ⟨rfl, Sep.deskI (t := dd) (b := b) (hR.sub exQ)⟩
  ·
   intro hg hS
   omega
theorem adtry3_ok {ord : List Nat} {tm : Nat → Int} {un now t p u : Int} {S lim b ba bs bo c : Nat} {r : Option Addr} {l : List HP} {w : World} {x3 x8 : Nat} {fb : Bool} (hR : Sep (blk x8 [.bool fb] 4 :: blk x3 [.pointer (some ⟨b, 0, none⟩)] 29 :: blk b [.pointer (some ⟨ba, 0, none⟩), .pointer (some ⟨bs, 0, none⟩), .pointer (some ⟨bo, 0, none⟩), .slice r S c, .int .i64 (S : Int), .int .i64 (lim : Int), .int .i64 t, .int .i64 p, .int .i64 u, .int .i64 now] 59 :: lruA 125 183 180 3 bo S ord tm un :: l) w) : CallR Tryz.prog 53 [.pointer (some ⟨x8, 0, none⟩), .pointer (some ⟨x3, 0, none⟩)] w (fun v w' => v = .bool (fb && decide ((ord.length : Int) = 0)) ∧ Sep (blk x8 [.bool fb] 4 :: blk x3 [.pointer (some ⟨b, 0, none⟩)] 29 :: blk b [.pointer (some ⟨ba, 0, none⟩), .pointer (some ⟨bs, 0, none⟩), .pointer (some ⟨bo, 0, none⟩), .slice r S c, .int .i64 (S : Int), .int .i64 (lim : Int), .int .i64 t, .int .i64 p, .int .i64 u, .int .i64 now] 59 :: lruA 125 183 180 3 bo S ord tm un :: l) w') := by
 cases fb
 ·
  exact adtry3_no hR
 ·
  exact adtry3_yes hR
set_option maxHeartbeats 2000000 in
theorem adTry_ok {t p u : Int} {S lim b : Nat} {l : List HP} {w : World} {D : Dk} (hD : DKF S lim t p u D) {a : Int} (ha : 0 ≤ a ∧ a ≤ 4294967295) {n : Int} (hn : D.now ≤ n ∧ n ≤ 1099511627776) (hun : D.un ≤ 4611686018427387000) (hR : Sep (deskA dd b S lim (t, p, u) D :: l) w) : CallR Tryz.prog 20 [.pointer (some ⟨b, 0, none⟩), .int .i64 n, .int .u32 a] w (fun v w' => v = tryV (tryD lim t p u D n a).1 ∧ Sep (deskA dd b S lim (t, p, u) (tryD lim t p u D n a).2 :: l) w') := by
 refine enter Tryz.func20 rfl Tryz.ntmps20 (Nat.le_of_ble_eq_true rfl) ?_; intro aa hS
 obtain ⟨ba, bs, bo, r, c, hR⟩ := hR.deskE
 dsimp only at hR
 have hw := hD.w
 have hnb : ¬ (n < D.now ∨ 1099511627776 < n) := by omega
 have hRB := hD.bk (a := a) hn
 have hn0 : 0 ≤ n ∧ n ≤ 1099511627776 := ⟨by have := hw.now; omega, hn.2⟩
 have hbl := hw.blen
 have hll := hw.sf.lim a
 have hS1 : 1 ≤ S := by
  have h1 := hw.ok.pos
  have h2 := hw.size
  omega
 have hbk : Bk r := (hR.pk (r := sls r _ _ _ _ _) pkQ).bk hS1
 obtain ⟨z, hz⟩ : ∃ y, takeF t p u (bkD t p u D.T D.B a n) n n 1 = y := ⟨_, rfl⟩
 have hzz : z = if (bkD t p u D.T D.B a n) < p then (0, 0, 6) else ((bkD t p u D.T D.B a n) - p, n, 0) := by rw [← hz]; exact take1 hRB
 refine wp_seq_k ?_; intro K755 hK755
 refine wp_region_lit ?_
 refine sB (Bbox hS hR rfl (by rfl) (by decide) ?_); clear hS hR; intro aa ww bb3 hS hR
 refine sB (Bbox hS hR rfl (by rfl) (by decide) ?_); clear hS hR; intro aa ww bb5 hS hR
 refine sB (Balloc hS hR info43 (by rfl) (by rfl) (by decide) ?_); clear hS hR; intro aa ww bb6 hS hR
 revert aa
 refine qN hR ?_
 intro aa hS
 refine wpList_nil ?_
 refine hK755 _ _ ?_
 refine wp_seq_k ?_; intro K756 hK756
 refine wp_block ?_
 refine wp_seq_k ?_; intro K757 hK757
 refine wp_region_lit ?_
 refine sA hS hR (Yld.load1 hS rfl Tryz.underlying29 rfl rdQ) (by decide) ?_; clear hS; intro aa hS
 refine sB (Bcall hS rfl Tryz.call36 (adnone_ok (hR.pk (r := blk b _ 59) pkQ)) (by decide) ?_); clear hS; intro aa ww vv hS hp
 clear hR
 obtain ⟨rfl, hR⟩ := hp
 revert aa
 refine qN hR ?_
 intro aa hS
 refine wpList_nil ?_
 refine hK757 _ _ ?_
 refine condF hS rfl ?_
 refine wp_seq_k ?_; intro K758 hK758
 refine wp_region_lit ?_
 revert aa
 refine qM hR ?_
 refine qA hR rfl (fun _ hS => Yld.load1 hS rfl Tryz.underlying29 rfl rdQ) ?_
 refine qA hR rfl (fun _ hS => Yld.nilCheck hS rfl) ?_
 refine qA hR rfl (fun _ hS => Yld.fieldAddr hS rfl 9 Tryz.underlying59 rfl rfl info3 (by decide)) ?_
 refine qA hR rfl (fun _ hS => Yld.load1 hS rfl Tryz.underlying3 rfl rdQ) ?_
 refine qA hR rfl (fun _ hS => Yld.lss hS rfl rfl) ?_
 refine qB (t := 26) false rfl (by exact decide_eq_false (by omega)) ?_
 refine qM hR ?_
 refine qMg hR ?_
 refine qAg hR rfl rfl rfl (fun _ hS => Yld.gtr hS rfl rfl) ?_
 refine qB (t := 29) false rfl (by exact decide_eq_false (by omega)) ?_
 refine qA hR rfl (fun _ hS => Yld.pickF hS rfl rfl) ?_
 refine qN hR ?_
 intro aa hS
 refine wpList_nil ?_
 refine hK758 _ _ ?_
 refine condF hS rfl ?_
 refine wp_skip ?_
 refine hK756 _ _ ?_
 refine wp_seq_k ?_; intro K759 hK759
 refine wp_region_lit ?_
 revert aa
 refine qA hR rfl (fun _ hS => Yld.load1 hS rfl Tryz.underlying29 rfl rdQ) ?_
 refine qM hR ?_
 refine qA hR rfl (fun _ hS => Yld.nilCheck hS rfl) ?_
 refine qA hR rfl (fun _ hS => Yld.fieldAddr hS rfl 9 Tryz.underlying59 rfl rfl info3 (by decide)) ?_
 intro aa hS
 refine sB (Bstore hS hR rfl rfl (by rfl) info3 (by rfl) pkQ (by rfl) (Nat.le_of_ble_eq_true rfl) ?_); clear hR; intro ww hR
 dsimp only [lay, List.set] at hR
 refine wpList_nil ?_
 refine hK759 _ _ ?_
 refine wp_seq_k ?_; intro K760 hK760
 have tail760 : ∀ (bb8 : Nat) (aa : Act) (ww : World), Has 121 aa [(1, .int .i64 n), (3, .pointer (some ⟨bb3, 0, none⟩)), (5, .pointer (some ⟨bb5, 0, none⟩)), (6, .pointer (some ⟨bb6, 0, none⟩)), (8, .pointer (some ⟨bb8, 0, none⟩))] → Sep (blk b [.pointer (some ⟨ba, 0, none⟩), .pointer (some ⟨bs, 0, none⟩), .pointer (some ⟨bo, 0, none⟩), .slice r S c, .int .i64 (S : Int), .int .i64 (lim : Int), .int .i64 t, .int .i64 p, .int .i64 u, .int .i64 n] 59 :: arena 148 174 ba D.A :: sourceA ss bs S lim D.T :: lruA 125 183 180 3 bo S D.ord D.tm D.un :: sls r S c 67 2 (D.B.flatMap e2) :: blk bb3 [.pointer (some ⟨b, 0, none⟩)] 29 :: blk bb5 [.int .u32 a] 25 :: blk bb6 [.int .u8 0, .int .i64 0, .int .i64 0, .bool false] 43 :: blk bb8 [.bool (decide (Sx.cnt D.A.tk = (S : Int)))] 4 :: l) ww → K760 aa ww := by
  clear hS hR; intro bb8 aa ww hS hR
  refine hK760 _ _ ?_
  refine wp_seq_k ?_; intro K761 hK761
  have tail761 : ∀ (bb8 bb9 bb10 : Nat) (aa : Act) (ww : World), Has 121 aa [(3, .pointer (some ⟨bb3, 0, none⟩)), (5, .pointer (some ⟨bb5, 0, none⟩)), (6, .pointer (some ⟨bb6, 0, none⟩)), (8, .pointer (some ⟨bb8, 0, none⟩)), (9, .pointer (some ⟨bb9, 0, none⟩)), (10, .pointer (some ⟨bb10, 0, none⟩))] → Sep (blk b [.pointer (some ⟨ba, 0, none⟩), .pointer (some ⟨bs, 0, none⟩), .pointer (some ⟨bo, 0, none⟩), .slice r S c, .int .i64 (S : Int), .int .i64 (lim : Int), .int .i64 t, .int .i64 p, .int .i64 u, .int .i64 n] 59 :: arena 148 174 ba D.A :: sourceA ss bs S lim D.T :: lruA 125 183 180 3 bo S D.ord D.tm D.un :: sls r S c 67 2 (D.B.flatMap e2) :: blk bb3 [.pointer (some ⟨b, 0, none⟩)] 29 :: blk bb5 [.int .u32 a] 25 :: blk bb6 [.int .u8 0, .int .i64 0, .int .i64 0, .bool false] 43 :: blk bb8 [.bool (decide (Sx.cnt D.A.tk = (S : Int)))] 4 :: blk bb9 [.int .i64 z.1, .int .i64 z.2.1] 67 :: blk bb10 [.int .i64 z.2.2] 61 :: l) ww → K761 aa ww := by
   clear hS hR; intro bb8 bb9 bb10 aa ww hS hR
   refine hK761 _ _ ?_
   refine wp_seq_k ?_; intro K762 hK762
   refine wp_seq_k ?_; intro K763 hK763
   refine wp_region_lit ?_
   revert aa
   refine qA hR rfl (fun _ hS => Yld.makeFunc hS rfl rfl) ?_
   refine qA hR rfl (fun _ hS => Yld.build hS rfl (bld101_0_1 _ _ _ _)) ?_
   refine qA hR rfl (fun _ hS => Yld.makeFunc hS rfl rfl) ?_
   refine qA hR rfl (fun _ hS => Yld.build hS rfl (bld101_0_1 _ _ _ _)) ?_
   refine qA hR rfl (fun _ hS => Yld.makeFunc hS rfl rfl) ?_
   refine qA hR rfl (fun _ hS => Yld.build hS rfl (bld101_0_1 _ _ _ _)) ?_
   intro aa hS
   refine sB (BbuildSlice hS hR rfl (bls102_3_0_1_2 _ _ _ _ _ _ _ _ _ _ _ _) (by decide) ?_); clear hS hR; intro aa ww bb68 hS hR
   revert aa
   refine qA hR rfl (fun _ hS => Yld.len hS rfl Tryz.underlying102) ?_
   refine qM hR ?_
   intro aa hS
   refine wpList_nil ?_
   refine hK763 _ _ ?_
   refine wp_block ?_
   refine loopU 3 ?_
   replace hS := hS.le (T := [(3, _), (5, _), (6, _), (8, _), (9, _), (68, _), (69, _), (70, _)]) (Le.cons rfl (Le.cons rfl (Le.cons rfl (Le.cons rfl (Le.cons rfl (Le.cons rfl (Le.cons rfl (Le.cons rfl (Le.nil _)))))))))
   replace hS := hS.say (t := 70) (.int .i64 0) rfl (by rfl)
   refine wp_seq_k ?_; intro K764 hK764
   refine wp_region_lit ?_
   revert aa
   refine qA hR rfl (fun _ hS => Yld.lss hS rfl rfl) ?_
   refine qB (t := 71) true rfl (by decide) ?_
   intro aa hS
   refine wpList_nil ?_
   refine hK764 _ _ ?_
   refine wp_seq_k ?_; intro K765 hK765
   refine condT hS rfl ?_
   refine wp_skip ?_
   refine hK765 _ _ ?_
   refine wp_seq_k ?_; intro K766 hK766
   refine wp_block ?_
   refine wp_seq_k ?_; intro K767 hK767
   refine wp_region_lit ?_
   refine sA hS hR ((by first | exact Yld.indexH (sz := 2) (_) hS rfl rfl Tryz.underlying102 info101 (by assumption) rfl (by first | rfl | omega) (by omega) | exact Yld.indexL (sz := 2) (_) hS rfl rfl Tryz.underlying102 info101 pkQ rfl (by first | rfl | omega) (by omega) | exact Yld.indexB (sz := 2) (_) hS rfl rfl Tryz.underlying102 info101 rfl (by first | rfl | omega) (by omega) | exact Yld.indexSlice hS rfl rfl Tryz.underlying102 info101 (by omega) (by omega))) (by decide) ?_; clear hS; intro aa hS
   refine sA hS hR (Yld.loadAgg hS rfl Tryz.underlying101 rfl info101 rdsQ2 (by rfl)) (by decide) ?_; clear hS; intro aa hS
   refine sB (Balloc hS hR info101 (by rfl) (by rfl) (by decide) ?_); clear hS hR; intro aa ww bb12 hS hR
   refine sB (Bstore hS hR rfl rfl (by rfl) info101 (by rfl) pkQ (by rfl) (Nat.le_of_ble_eq_true rfl) ?_); clear hR; intro ww hR
   refine wpList_nil ?_
   refine hK767 _ _ ?_
   refine wp_seq_k ?_; intro K768 hK768
   refine wp_region_lit ?_
   revert aa
   refine qA hR rfl (fun _ hS => Yld.fieldAddr hS rfl 1 Tryz.underlying101 rfl rfl info28 (by decide)) ?_
   refine qA hR rfl (fun _ hS => Yld.load1 hS rfl Tryz.underlying28 rfl rdQ) ?_
   intro aa hS
   refine sB (BcallV (first := []) (caps := [.pointer (some ⟨bb3, 0, none⟩), .pointer (some ⟨bb5, 0, none⟩)]) hS rfl rfl Tryz.call50 (adtry1_ok (x3 := bb3) (x5 := bb5) ha ((((hR.pk (r := sourceA _ bs _ _ _) pkQ).pk (r := blk b _ 59) pkQ).pk (r := blk bb5 _ _) pkQ).pk (r := blk bb3 _ _) pkQ)) (by decide) ?_); clear hS; intro aa ww vv hS hp
   clear hR
   obtain ⟨rfl, hR⟩ := hp
   refine wpList_nil ?_
   refine hK768 _ _ ?_
   refine hS.splitB (t := 76) rfl ?_ ?_ <;> clear hS
   ·
    intro hg hS
    have hq1 : lim ≤ (slO D.T.O a).length := by omega
    refine condT hS rfl ?_
    refine wp_seq_k ?_; intro K769 hK769
    refine wp_region_lit ?_
    revert aa
    refine qA hR rfl (fun _ hS => Yld.fieldAddr hS rfl 0 Tryz.underlying101 rfl rfl info5 (by decide)) ?_
    refine qA hR rfl (fun _ hS => Yld.load1 hS rfl Tryz.underlying5 rfl rdQ) ?_
    refine qA hR rfl (fun _ hS => Yld.build hS rfl (bld43_0 _)) ?_
    intro aa hS
    refine sB (Bstore hS hR rfl rfl (by rfl) info43 (by rfl) pkQ (by rfl) (Nat.le_of_ble_eq_true rfl) ?_); clear hR; intro ww hR
    revert aa
    refine qN hR ?_
    intro aa hS
    refine wpList_nil ?_
    refine hK769 _ _ ?_
    refine wp_ret ?_
    repeat first | with_reducible refine thenR ?_ | with_reducible refine blockR ?_ | with_reducible refine scopeR ?_
    refine retN (fn := Tryz.f20) (e := .ret) (.inl rfl) Tryz.results20 hS hR ⟨_, .cons (.agg rfl Tryz.underlying43 rfl info43 (Rds.cons (Rd.blk pkQ (by rfl)) (Rds.cons (Rd.blk pkQ (by rfl)) (Rds.cons (Rd.blk pkQ (by rfl)) (Rds.cons (Rd.blk pkQ (by rfl)) (Rds.nil))))) (by rfl)) (.cons (.tmp rfl) (.nil)), rfl, ?_⟩
    try dsimp only [lay, List.set] at hR
    have hst : tryD lim t p u D n a = ((27, 0, 0, false, 0), atD D n) := by unfold tryD; rw [if_neg hnb, if_pos hq1]
    rw [hst]
    exact ⟨rfl, Sep.deskI (t := dd) (b := b) (hR.sub exQ)⟩
   ·
    intro hg hS
    have hq1 : ¬ lim ≤ (slO D.T.O a).length := by omega
    refine condF hS rfl ?_
    refine wp_skip ?_
    refine hK766 _ _ ?_
    refine wp_region_lit ?_
    refine sA hS hR adQ (by decide) ?_; clear hS; intro aa hS
    revert aa
    refine qM hR ?_
    intro aa hS
    refine wpList_nil ?_
    refine roundU ?_
    replace hS := hS.le (T := [(3, _), (5, _), (6, _), (8, _), (9, _), (12, _), (68, _), (69, _), (70, _), (71, _), (72, _), (73, _), (74, _), (75, _), (76, _), (80, _)]) (Le.cons rfl (Le.cons rfl (Le.cons rfl (Le.cons rfl (Le.cons rfl (Le.cons rfl (Le.cons rfl (Le.cons rfl (Le.cons rfl (Le.cons rfl (Le.cons rfl (Le.cons rfl (Le.cons rfl (Le.cons rfl (Le.cons rfl (Le.cons rfl (Le.nil _)))))))))))))))))
    replace hS := hS.say (t := 70) (.int .i64 1) rfl (by rfl)
    refine wp_seq_k ?_; intro K770 hK770
    refine wp_region_lit ?_
    revert aa
    refine qA hR rfl (fun _ hS => Yld.lss hS rfl rfl) ?_
    refine qB (t := 71) true rfl (by decide) ?_
    intro aa hS
    refine wpList_nil ?_
    refine hK770 _ _ ?_
    refine wp_seq_k ?_; intro K771 hK771
    refine condT hS rfl ?_
    refine wp_skip ?_
    refine hK771 _ _ ?_
    refine wp_seq_k ?_; intro K772 hK772
    refine wp_block ?_
    refine wp_seq_k ?_; intro K773 hK773
    refine wp_region_lit ?_
    refine sA hS hR ((by first | exact Yld.indexH (sz := 2) (_) hS rfl rfl Tryz.underlying102 info101 (by assumption) rfl (by first | rfl | omega) (by omega) | exact Yld.indexL (sz := 2) (_) hS rfl rfl Tryz.underlying102 info101 pkQ rfl (by first | rfl | omega) (by omega) | exact Yld.indexB (sz := 2) (_) hS rfl rfl Tryz.underlying102 info101 rfl (by first | rfl | omega) (by omega) | exact Yld.indexSlice hS rfl rfl Tryz.underlying102 info101 (by omega) (by omega))) (by decide) ?_; clear hS; intro aa hS
    refine sA hS hR (Yld.loadAgg hS rfl Tryz.underlying101 rfl info101 rdsQ2 (by rfl)) (by decide) ?_; clear hS; intro aa hS
    refine sB (Balloc hS hR info101 (by rfl) (by rfl) (by decide) ?_); clear hS hR; intro aa ww bb12 hS hR
    refine sB (Bstore hS hR rfl rfl (by rfl) info101 (by rfl) pkQ (by rfl) (Nat.le_of_ble_eq_true rfl) ?_); clear hR; intro ww hR
    refine wpList_nil ?_
    refine hK773 _ _ ?_
    refine wp_seq_k ?_; intro K774 hK774
    refine wp_region_lit ?_
    revert aa
    refine qA hR rfl (fun _ hS => Yld.fieldAddr hS rfl 1 Tryz.underlying101 rfl rfl info28 (by decide)) ?_
    refine qA hR rfl (fun _ hS => Yld.load1 hS rfl Tryz.underlying28 rfl rdQ) ?_
    intro aa hS
    refine sB (BcallV (first := []) (caps := [.pointer (some ⟨bb10, 0, none⟩)]) hS rfl rfl Tryz.call52 (adtry2_ok (hR.pk (r := blk bb10 _ _) pkQ)) (by decide) ?_); clear hS; intro aa ww vv hS hp
    clear hR
    obtain ⟨rfl, hR⟩ := hp
    refine wpList_nil ?_
    refine hK774 _ _ ?_
    refine hS.splitB (t := 76) rfl ?_ ?_ <;> clear hS
    ·
     intro hg hS
     have hq2 : (bkD t p u D.T D.B a n) < p := by
      by_cases h : (bkD t p u D.T D.B a n) < p
      ·
       exact h
      ·
       rw [if_neg h] at hzz; rw [hzz] at hg; exact absurd rfl hg
     refine condT hS rfl ?_
     refine wp_seq_k ?_; intro K775 hK775
     refine wp_region_lit ?_
     revert aa
     refine qA hR rfl (fun _ hS => Yld.fieldAddr hS rfl 0 Tryz.underlying101 rfl rfl info5 (by decide)) ?_
     refine qA hR rfl (fun _ hS => Yld.load1 hS rfl Tryz.underlying5 rfl rdQ) ?_
     refine qA hR rfl (fun _ hS => Yld.build hS rfl (bld43_0 _)) ?_
     intro aa hS
     refine sB (Bstore hS hR rfl rfl (by rfl) info43 (by rfl) pkQ (by rfl) (Nat.le_of_ble_eq_true rfl) ?_); clear hR; intro ww hR
     revert aa
     refine qN hR ?_
     intro aa hS
     refine wpList_nil ?_
     refine hK775 _ _ ?_
     refine wp_ret ?_
     repeat first | with_reducible refine thenR ?_ | with_reducible refine blockR ?_ | with_reducible refine scopeR ?_
     refine retN (fn := Tryz.f20) (e := .ret) (.inl rfl) Tryz.results20 hS hR ⟨_, .cons (.agg rfl Tryz.underlying43 rfl info43 (Rds.cons (Rd.blk pkQ (by rfl)) (Rds.cons (Rd.blk pkQ (by rfl)) (Rds.cons (Rd.blk pkQ (by rfl)) (Rds.cons (Rd.blk pkQ (by rfl)) (Rds.nil))))) (by rfl)) (.cons (.tmp rfl) (.nil)), rfl, ?_⟩
     try dsimp only [lay, List.set] at hR
     have hst : tryD lim t p u D n a = ((28, 0, 0, false, 0), atD D n) := by unfold tryD; rw [if_neg hnb, if_neg hq1, if_pos hq2]
     rw [hst]
     exact ⟨rfl, Sep.deskI (t := dd) (b := b) (hR.sub exQ)⟩
    ·
     intro hg hS
     have hq2 : ¬ (bkD t p u D.T D.B a n) < p := fun h => by
      rw [if_pos h] at hzz; rw [hzz] at hg; simp at hg
     rw [if_neg hq2] at hzz
     subst hzz
     dsimp only at hR
     refine condF hS rfl ?_
     refine wp_skip ?_
     refine hK772 _ _ ?_
     refine wp_region_lit ?_
     refine sA hS hR adQ (by decide) ?_; clear hS; intro aa hS
     revert aa
     refine qM hR ?_
     intro aa hS
     refine wpList_nil ?_
     refine roundU ?_
     replace hS := hS.le (T := [(3, _), (5, _), (6, _), (8, _), (9, _), (12, _), (68, _), (69, _), (70, _), (71, _), (72, _), (73, _), (74, _), (75, _), (76, _), (80, _)]) (Le.cons rfl (Le.cons rfl (Le.cons rfl (Le.cons rfl (Le.cons rfl (Le.cons rfl (Le.cons rfl (Le.cons rfl (Le.cons rfl (Le.cons rfl (Le.cons rfl (Le.cons rfl (Le.cons rfl (Le.cons rfl (Le.cons rfl (Le.cons rfl (Le.nil _)))))))))))))))))
     replace hS := hS.say (t := 70) (.int .i64 2) rfl (by rfl)
     refine wp_seq_k ?_; intro K776 hK776
     refine wp_region_lit ?_
     revert aa
     refine qA hR rfl (fun _ hS => Yld.lss hS rfl rfl) ?_
     refine qB (t := 71) true rfl (by decide) ?_
     intro aa hS
     refine wpList_nil ?_
     refine hK776 _ _ ?_
     refine wp_seq_k ?_; intro K777 hK777
     refine condT hS rfl ?_
     refine wp_skip ?_
     refine hK777 _ _ ?_
     refine wp_seq_k ?_; intro K778 hK778
     refine wp_block ?_
     refine wp_seq_k ?_; intro K779 hK779
     refine wp_region_lit ?_
     refine sA hS hR ((by first | exact Yld.indexH (sz := 2) (_) hS rfl rfl Tryz.underlying102 info101 (by assumption) rfl (by first | rfl | omega) (by omega) | exact Yld.indexL (sz := 2) (_) hS rfl rfl Tryz.underlying102 info101 pkQ rfl (by first | rfl | omega) (by omega) | exact Yld.indexB (sz := 2) (_) hS rfl rfl Tryz.underlying102 info101 rfl (by first | rfl | omega) (by omega) | exact Yld.indexSlice hS rfl rfl Tryz.underlying102 info101 (by omega) (by omega))) (by decide) ?_; clear hS; intro aa hS
     refine sA hS hR (Yld.loadAgg hS rfl Tryz.underlying101 rfl info101 rdsQ2 (by rfl)) (by decide) ?_; clear hS; intro aa hS
     refine sB (Balloc hS hR info101 (by rfl) (by rfl) (by decide) ?_); clear hS hR; intro aa ww bb12 hS hR
     refine sB (Bstore hS hR rfl rfl (by rfl) info101 (by rfl) pkQ (by rfl) (Nat.le_of_ble_eq_true rfl) ?_); clear hR; intro ww hR
     refine wpList_nil ?_
     refine hK779 _ _ ?_
     refine wp_seq_k ?_; intro K780 hK780
     refine wp_region_lit ?_
     revert aa
     refine qA hR rfl (fun _ hS => Yld.fieldAddr hS rfl 1 Tryz.underlying101 rfl rfl info28 (by decide)) ?_
     refine qA hR rfl (fun _ hS => Yld.load1 hS rfl Tryz.underlying28 rfl rdQ) ?_
     intro aa hS
     refine sB (BcallV (first := []) (caps := [.pointer (some ⟨bb8, 0, none⟩), .pointer (some ⟨bb3, 0, none⟩)]) hS rfl rfl Tryz.call53 (adtry3_ok (x3 := bb3) (x8 := bb8) ((((hR.pk (r := lruA _ _ _ _ bo _ _ _ _) pkQ).pk (r := blk b _ 59) pkQ).pk (r := blk bb3 _ _) pkQ).pk (r := blk bb8 _ _) pkQ)) (by decide) ?_); clear hS; intro aa ww vv hS hp
     clear hR
     obtain ⟨rfl, hR⟩ := hp
     refine wpList_nil ?_
     refine hK780 _ _ ?_
     refine hS.splitB (t := 76) rfl ?_ ?_ <;> clear hS
     ·
      intro hg hS
      rw [Bool.and_eq_true, decide_eq_true_eq, decide_eq_true_eq] at hg
      have hf := (cnt_lit hw).1 hg.1
      have ho : D.ord = [] := List.length_eq_zero_iff.1 (by omega)
      refine condT hS rfl ?_
      refine wp_seq_k ?_; intro K781 hK781
      refine wp_region_lit ?_
      revert aa
      refine qA hR rfl (fun _ hS => Yld.fieldAddr hS rfl 0 Tryz.underlying101 rfl rfl info5 (by decide)) ?_
      refine qA hR rfl (fun _ hS => Yld.load1 hS rfl Tryz.underlying5 rfl rdQ) ?_
      refine qA hR rfl (fun _ hS => Yld.build hS rfl (bld43_0 _)) ?_
      intro aa hS
      refine sB (Bstore hS hR rfl rfl (by rfl) info43 (by rfl) pkQ (by rfl) (Nat.le_of_ble_eq_true rfl) ?_); clear hR; intro ww hR
      revert aa
      refine qN hR ?_
      intro aa hS
      refine wpList_nil ?_
      refine hK781 _ _ ?_
      refine wp_ret ?_
      repeat first | with_reducible refine thenR ?_ | with_reducible refine blockR ?_ | with_reducible refine scopeR ?_
      refine retN (fn := Tryz.f20) (e := .ret) (.inl rfl) Tryz.results20 hS hR ⟨_, .cons (.agg rfl Tryz.underlying43 rfl info43 (Rds.cons (Rd.blk pkQ (by rfl)) (Rds.cons (Rd.blk pkQ (by rfl)) (Rds.cons (Rd.blk pkQ (by rfl)) (Rds.cons (Rd.blk pkQ (by rfl)) (Rds.nil))))) (by rfl)) (.cons (.tmp rfl) (.nil)), rfl, ?_⟩
      try dsimp only [lay, List.set] at hR
      have hst : tryD lim t p u D n a = ((29, 0, 0, false, 0), atD D n) := by unfold tryD; rw [if_neg hnb, if_neg hq1, if_neg hq2, hf, ho]
      rw [hst]
      exact ⟨rfl, Sep.deskI (t := dd) (b := b) (hR.sub exQ)⟩
     ·
      intro hg hS
      have hq3 : ¬ (Sx.cnt D.A.tk = (S : Int) ∧ (D.ord.length : Int) = 0) := fun h => by rw [decide_eq_true h.1, decide_eq_true h.2] at hg; simp at hg
      refine condF hS rfl ?_
      refine wp_skip ?_
      refine hK778 _ _ ?_
      refine wp_region_lit ?_
      refine sA hS hR adQ (by decide) ?_; clear hS; intro aa hS
      revert aa
      refine qM hR ?_
      intro aa hS
      refine wpList_nil ?_
      refine roundU ?_
      replace hS := hS.le (T := [(3, _), (5, _), (6, _), (8, _), (9, _), (12, _), (68, _), (69, _), (70, _), (71, _), (72, _), (73, _), (74, _), (75, _), (76, _), (80, _)]) (Le.cons rfl (Le.cons rfl (Le.cons rfl (Le.cons rfl (Le.cons rfl (Le.cons rfl (Le.cons rfl (Le.cons rfl (Le.cons rfl (Le.cons rfl (Le.cons rfl (Le.cons rfl (Le.cons rfl (Le.cons rfl (Le.cons rfl (Le.cons rfl (Le.nil _)))))))))))))))))
      replace hS := hS.say (t := 70) (.int .i64 3) rfl (by rfl)
      refine wp_seq_k ?_; intro K782 hK782
      refine wp_region_lit ?_
      revert aa
      refine qA hR rfl (fun _ hS => Yld.lss hS rfl rfl) ?_
      refine qB (t := 71) false rfl (by decide) ?_
      intro aa hS
      refine wpList_nil ?_
      refine hK782 _ _ ?_
      refine wp_seq_k ?_; intro K783 hK783
      refine condF hS rfl ?_
      refine wp_exit ?_
      refine hK762 _ _ ?_
      refine wp_seq_k ?_; intro K784 hK784
      refine wp_region_lit ?_
      refine sA hS hR (Yld.build hS rfl (bld43_0 _)) (by decide) ?_; clear hS; intro aa hS
      refine sB (Balloc hS hR info43 (by rfl) (by rfl) (by decide) ?_); clear hS hR; intro aa ww bb13 hS hR
      refine sB (Bstore hS hR rfl rfl (by rfl) info43 (by rfl) pkQ (by rfl) (Nat.le_of_ble_eq_true rfl) ?_); clear hR; intro ww hR
      refine wpList_nil ?_
      refine hK784 _ _ ?_
      refine wp_seq_k ?_; intro K785 hK785
      refine wp_seq_k ?_; intro K786 hK786
      refine wp_region_lit ?_
      refine sA hS hR (Yld.load1 hS rfl Tryz.underlying4 rfl rdQ) (by decide) ?_; clear hS; intro aa hS
      refine wpList_nil ?_
      refine hK786 _ _ ?_
      refine hS.splitB (t := 82) rfl ?_ ?_ <;> clear hS
      ·
       intro hg hS
       obtain ⟨s, vs, ho⟩ : ∃ s vs, D.ord = s :: vs := by
        cases h : D.ord with
        | nil => exact absurd ⟨hg, by rw [h]; rfl⟩ hq3
        | cons x y => exact ⟨x, y, rfl⟩
       obtain ⟨a0, hm⟩ := hw.ordOf (x := s) (by rw [ho]; exact List.mem_cons_self)
       have hf := (cnt_lit hw).1 hg
       obtain ⟨hcl, hs, hof, v0, hv⟩ := clsE_of hw hm
       have hw2 := (hw.to hn0).cls (a := a0) (s := s) hm
       have hl2 : (slO (remO D.T a0 s).O a).length < lim := by have := slO_rem (T := D.T) (a := a) (b := a0) (s := s); omega
       have hf2 : (clsD (atD D n) a0 s).A.free = s :: D.A.free := rfl
       obtain ⟨hs2, hno, hnm⟩ := hw2.free (s := s) (by rw [hf2]; exact List.mem_cons_self)
       obtain ⟨q, hrc, hqS⟩ := hw2.rcAdd hf2 ha hl2
       dsimp only [clsD, atD] at hf2 hno hnm hrc
       have hod : (dirL 0 D.ord).head? = some s := by rw [ho]; rfl
       have hst : (tryD lim t p u D n a) = ((22, (s : Int), (s : Int), true, 0), setB (opnD (clsD (atD D n) a0 s) a s) q ((bkD t p u D.T D.B a n) - p, n)) := by
        unfold tryD
        rw [if_neg hnb, if_neg hq1, if_neg hq2, hf, ho]
        dsimp only
        rw [hof]
        unfold putB
        rw [show (rcR (opnD (clsD (atD D n) ((some a0).getD 0) s) a s).T.R a).getD 0 = q from by show (rcR (Sx.addO (remO D.T a0 s) a s).R a).getD 0 = q; rw [hrc]; rfl]
        rfl
       refine condT hS rfl ?_
       refine wp_seq_k ?_; intro K787 hK787
       refine wp_region_lit ?_
       revert aa
       refine qA hR rfl (fun _ hS => Yld.load1 hS rfl Tryz.underlying29 rfl rdQ) ?_
       refine qA hR rfl (fun _ hS => Yld.nilCheck hS rfl) ?_
       refine qA hR rfl (fun _ hS => Yld.fieldAddr hS rfl 0 Tryz.underlying59 rfl rfl info57 (by decide)) ?_
       refine qA hR rfl (fun _ hS => Yld.fieldAddr hS rfl 2 Tryz.underlying57 rfl rfl info54 (by decide)) ?_
       refine qA hR rfl (fun _ hS => Yld.load1 hS rfl Tryz.underlying54 rfl rdQ) ?_
       intro aa hS
       refine sB (Bcall hS rfl Tryz.call55 (lrOldest_ok (hR.pk (r := lruA _ _ _ _ bo _ _ _ _) pkQ)) (by decide) ?_); clear hS; intro aa ww vv hS hp
       clear hR
       obtain ⟨rfl, hR⟩ := hp
       rw [hod] at hS
       dsimp only [optV, Option.getD, Option.isSome] at hS
       revert aa
       refine qM hR ?_
       refine qX hR ?_
       refine qX hR ?_
       refine qA hR rfl (fun _ hS => Yld.fieldAddr hS rfl 2 Tryz.underlying43 rfl rfl info3 (by decide)) ?_
       intro aa hS
       refine sB (Bstore hS hR rfl rfl (by rfl) info3 (by rfl) pkQ (by rfl) (Nat.le_of_ble_eq_true rfl) ?_); clear hR; intro ww hR
       refine sA hS hR (Yld.fieldAddr hS rfl 3 Tryz.underlying43 rfl rfl info4 (by decide)) (by decide) ?_; clear hS; intro aa hS
       refine sB (Bstore hS hR rfl rfl (by rfl) info4 (by rfl) pkQ (by rfl) (Nat.le_of_ble_eq_true rfl) ?_); clear hR; intro ww hR
       refine wpList_nil ?_
       refine hK787 _ _ ?_
       refine wp_region_lit ?_
       revert aa
       refine qA hR rfl (fun _ hS => Yld.load1 hS rfl Tryz.underlying29 rfl rdQ) ?_
       refine qA hR rfl (fun _ hS => Yld.fieldAddr hS rfl 2 Tryz.underlying43 rfl rfl info3 (by decide)) ?_
       refine qA hR rfl (fun _ hS => Yld.load1 hS rfl Tryz.underlying3 rfl rdQ) ?_
       intro aa hS
       refine sB (Bcall hS rfl Tryz.call56 (adclose_ok hs hof hv ((((hR.pk (r := lruA _ _ _ _ bo _ _ _ _) pkQ).pk (r := sourceA _ bs _ _ _) pkQ).pk (r := arena _ _ ba _) pkQ).pk (r := blk b _ 59) pkQ)) (by decide) ?_); clear hS; intro aa ww vv hS hp
       clear hR
       obtain ⟨rfl, hR⟩ := hp
       refine wpList_nil ?_
       refine hK785 _ _ ?_
       refine wp_seq_k ?_; intro K788 hK788
       refine wp_region_lit ?_
       revert aa
       refine qA hR rfl (fun _ hS => Yld.load1 hS rfl Tryz.underlying29 rfl rdQ) ?_
       refine qA hR rfl (fun _ hS => Yld.load1 hS rfl Tryz.underlying25 rfl rdQ) ?_
       intro aa hS
       refine sB (Bcall hS rfl Tryz.call57 (adopen_ok ha hf2 hs hno hl2 hnm ⟨hw.un, by omega⟩ ((((hR.pk (r := lruA _ _ _ _ bo _ _ _ _) pkQ).pk (r := sourceA _ bs _ _ _) pkQ).pk (r := arena _ _ ba _) pkQ).pk (r := blk b _ 59) pkQ)) (by decide) ?_); clear hS; intro aa ww vv hS hp
       clear hR
       obtain ⟨rfl, hR⟩ := hp
       refine sA hS hR (Yld.fieldAddr hS rfl 1 Tryz.underlying43 rfl rfl info3 (by decide)) (by decide) ?_; clear hS; intro aa hS
       refine sB (Bstore hS hR rfl rfl (by rfl) info3 (by rfl) pkQ (by rfl) (Nat.le_of_ble_eq_true rfl) ?_); clear hR; intro ww hR
       refine wpList_nil ?_
       refine hK788 _ _ ?_
       refine wp_seq_k ?_; intro K789 hK789
       refine drawn krQ hR Ex.refl ?_; clear hR; intro ww hR hR0
       revert aa
       refine eA 0 rfl krQ (fun _ _ _ h => h) hR0 rfl (fun _ hS => Yld.load1 hS rfl Tryz.underlying29 rfl rdQ) ?_
       refine eA 1 rfl krQ (fun _ _ _ h => h) hR0 rfl (fun _ hS => Yld.nilCheck hS rfl) ?_
       refine eA 2 rfl krQ (fun _ _ _ h => h) hR0 rfl (fun _ hS => Yld.fieldAddr hS rfl 0 Tryz.underlying59 rfl rfl info57 (by decide)) ?_
       refine eA 3 rfl krQ (fun _ _ _ h => h) hR0 rfl (fun _ hS => Yld.fieldAddr hS rfl 1 Tryz.underlying57 rfl rfl info53 (by decide)) ?_
       refine eA 4 rfl krQ (fun _ _ _ h => h) hR0 rfl (fun _ hS => Yld.load1 hS rfl Tryz.underlying53 rfl rdQ) ?_
       refine eA 5 rfl krQ (fun _ _ _ h => h) hR0 rfl (fun _ hS => Yld.load1 hS rfl Tryz.underlying25 rfl rdQ) ?_
       intro aa hS
       refine dOne (i := 6) krQ ?_
       refine dop rfl (Bcall hS rfl Tryz.call58 (soRecord_ok ha (hR.pk (r := sourceA _ bs _ _ _) pkQ)) (by decide) ?_); clear hS; intro aa ww vv hS hp
       clear hR hR0
       obtain ⟨rfl, hR⟩ := hp
       rw [hrc] at hS
       dsimp only [optV, Option.getD, Option.isSome] at hS
       refine dnext (hR.sub exQ) ?_; intro hR0
       revert aa
       refine eA 7 rfl krQ (fun _ _ _ h => h) hR0 rfl (fun _ hS => Yld.move hS rfl) ?_
       refine eA 8 rfl krQ (fun _ _ _ h => h) hR0 rfl (fun _ hS => Yld.extract hS rfl rfl) ?_
       refine eA 9 rfl krQ (fun _ _ _ h => h) hR0 rfl (fun _ hS => Yld.extract hS rfl rfl) ?_
       refine eA 10 rfl krQ (fun _ _ _ h => h) hR0 rfl (fun _ hS => Yld.assign hS rfl) ?_
       refine eA 11 rfl krQ (fun _ _ _ h => h) hR0 rfl (fun _ hS => Yld.assign hS rfl) ?_
       intro aa hS
       refine wpAnyH_done krQ ?_ _; clear hR0
       refine hK789 _ _ ?_
       refine wp_seq_k ?_; intro K790 hK790
       refine drawn krQ hR (Ex.of_pk (r := sls r _ _ _ _ _) pkQ) ?_; clear hR; intro ww hR hR0
       revert aa
       refine eA 0 rfl krQ (fun _ _ _ h => h) hR0 rfl (fun _ hS => Yld.load1 hS rfl Tryz.underlying29 rfl rdQ) ?_
       refine eA 1 rfl krQ (fun _ _ _ h => h) hR0 rfl (fun _ hS => Yld.nilCheck hS rfl) ?_
       refine eA 2 rfl krQ (fun _ _ _ h => h) hR0 rfl (fun _ hS => Yld.fieldAddr hS rfl 0 Tryz.underlying59 rfl rfl info57 (by decide)) ?_
       refine eA 3 rfl krQ (fun _ _ _ h => h) hR0 rfl (fun _ hS => Yld.fieldAddr hS rfl 3 Tryz.underlying57 rfl rfl info55 (by decide)) ?_
       refine eA 4 rfl krQ (fun _ _ _ h => h) hR0 rfl (fun _ hS => Yld.load1 hS rfl Tryz.underlying55 rfl rdQ) ?_
       refine eA 5 rfl krQ (fun _ _ _ h => h) hR0 rfl (fun _ hS => Yld.move hS rfl) ?_
       intro aa hS
       refine dA 6 rfl krQ krQ krQ (fun _ _ _ h => h) hS hR0 (Yld.loadAgg hS rfl Tryz.underlying67 rfl info67 rdsQ2 (by rfl)) (by decide) ?_; clear hS; intro aa hS
       revert aa
       refine eA 7 rfl krQ (fun _ _ _ h => h) hR0 rfl (fun _ hS => ihQ 2 (q) Tryz.underlying55 info67) ?_
       intro aa hS
       refine dOne (i := 8) krQ ?_
       refine dop rfl (BstoreR0 (((bkD t p u D.T D.B a n) - p, n)) hS hR rfl rfl (by rfl) info67 (by rfl) pkQ (by rfl) (by intro _; rfl) (by omega) (by first | exact Nat.le_of_ble_eq_true rfl | (simp only [List.length_singleton]; omega)) (Nat.le_of_ble_eq_true rfl) (by rfl) ?_); clear hR hR0; intro ww hR
       refine dnext (hR.sub exQ) ?_; intro hR0
       refine wpAnyH_done krQ ?_ _; clear hR0
       refine hK790 _ _ ?_
       refine wp_seq_k ?_; intro K791 hK791
       refine wp_region_lit ?_
       refine sA hS hR (Yld.loadAgg hS rfl Tryz.underlying43 rfl info43 rdsQ4 (by rfl)) (by decide) ?_; clear hS; intro aa hS
       refine sB (Bstore hS hR rfl rfl (by rfl) info43 (by rfl) pkQ (by rfl) (Nat.le_of_ble_eq_true rfl) ?_); clear hR; intro ww hR
       revert aa
       refine qN hR ?_
       intro aa hS
       refine wpList_nil ?_
       refine hK791 _ _ ?_
       refine wp_ret ?_
       repeat first | with_reducible refine thenR ?_ | with_reducible refine blockR ?_ | with_reducible refine scopeR ?_
       refine retN (fn := Tryz.f20) (e := .ret) (.inl rfl) Tryz.results20 hS hR ⟨_, .cons (.agg rfl Tryz.underlying43 rfl info43 (Rds.cons (Rd.blk pkQ (by rfl)) (Rds.cons (Rd.blk pkQ (by rfl)) (Rds.cons (Rd.blk pkQ (by rfl)) (Rds.cons (Rd.blk pkQ (by rfl)) (Rds.nil))))) (by rfl)) (.cons (.tmp rfl) (.nil)), rfl, ?_⟩
       try dsimp only [lay, List.set] at hR
       rw [hst]
       dsimp only [setB, opnD, clsD, atD]
       exact ⟨rfl, Sep.deskI (t := dd) (b := b) (hR.sub exQ)⟩
      ·
       intro hg hS
       obtain ⟨s, fs, hf⟩ : ∃ s fs, D.A.free = s :: fs := by
        cases h : D.A.free with
        | nil => exact absurd ((cnt_lit hw).2 h) hg
        | cons x y => exact ⟨x, y, rfl⟩
       have hl1 : (slO D.T.O a).length < lim := by omega
       obtain ⟨hs, hno, hnm⟩ := hw.free (s := s) (by rw [hf]; exact List.mem_cons_self)
       obtain ⟨q, hrc, hqS⟩ := hw.rcAdd hf ha hl1
       have hst : (tryD lim t p u D n a) = ((22, (s : Int), 0, false, 0), setB (opnD (atD D n) a s) q ((bkD t p u D.T D.B a n) - p, n)) := by
        unfold tryD
        rw [if_neg hnb, if_neg hq1, if_neg hq2, hf]
        dsimp only
        unfold putB
        rw [show (rcR (opnD (atD D n) a s).T.R a).getD 0 = q from by show (rcR (Sx.addO D.T a s).R a).getD 0 = q; rw [hrc]; rfl]
       refine condF hS rfl ?_
       refine wp_skip ?_
       refine hK785 _ _ ?_
       refine wp_seq_k ?_; intro K792 hK792
       refine wp_region_lit ?_
       revert aa
       refine qA hR rfl (fun _ hS => Yld.load1 hS rfl Tryz.underlying29 rfl rdQ) ?_
       refine qA hR rfl (fun _ hS => Yld.load1 hS rfl Tryz.underlying25 rfl rdQ) ?_
       intro aa hS
       refine sB (Bcall hS rfl Tryz.call57 (adopen_ok ha hf hs hno hl1 hnm ⟨hw.un, by omega⟩ ((((hR.pk (r := lruA _ _ _ _ bo _ _ _ _) pkQ).pk (r := sourceA _ bs _ _ _) pkQ).pk (r := arena _ _ ba _) pkQ).pk (r := blk b _ 59) pkQ)) (by decide) ?_); clear hS; intro aa ww vv hS hp
       clear hR
       obtain ⟨rfl, hR⟩ := hp
       refine sA hS hR (Yld.fieldAddr hS rfl 1 Tryz.underlying43 rfl rfl info3 (by decide)) (by decide) ?_; clear hS; intro aa hS
       refine sB (Bstore hS hR rfl rfl (by rfl) info3 (by rfl) pkQ (by rfl) (Nat.le_of_ble_eq_true rfl) ?_); clear hR; intro ww hR
       refine wpList_nil ?_
       refine hK792 _ _ ?_
       refine wp_seq_k ?_; intro K793 hK793
       refine drawn krQ hR Ex.refl ?_; clear hR; intro ww hR hR0
       revert aa
       refine eA 0 rfl krQ (fun _ _ _ h => h) hR0 rfl (fun _ hS => Yld.load1 hS rfl Tryz.underlying29 rfl rdQ) ?_
       refine eA 1 rfl krQ (fun _ _ _ h => h) hR0 rfl (fun _ hS => Yld.nilCheck hS rfl) ?_
       refine eA 2 rfl krQ (fun _ _ _ h => h) hR0 rfl (fun _ hS => Yld.fieldAddr hS rfl 0 Tryz.underlying59 rfl rfl info57 (by decide)) ?_
       refine eA 3 rfl krQ (fun _ _ _ h => h) hR0 rfl (fun _ hS => Yld.fieldAddr hS rfl 1 Tryz.underlying57 rfl rfl info53 (by decide)) ?_
       refine eA 4 rfl krQ (fun _ _ _ h => h) hR0 rfl (fun _ hS => Yld.load1 hS rfl Tryz.underlying53 rfl rdQ) ?_
       refine eA 5 rfl krQ (fun _ _ _ h => h) hR0 rfl (fun _ hS => Yld.load1 hS rfl Tryz.underlying25 rfl rdQ) ?_
       intro aa hS
       refine dOne (i := 6) krQ ?_
       refine dop rfl (Bcall hS rfl Tryz.call58 (soRecord_ok ha (hR.pk (r := sourceA _ bs _ _ _) pkQ)) (by decide) ?_); clear hS; intro aa ww vv hS hp
       clear hR hR0
       obtain ⟨rfl, hR⟩ := hp
       rw [hrc] at hS
       dsimp only [optV, Option.getD, Option.isSome] at hS
       refine dnext (hR.sub exQ) ?_; intro hR0
       revert aa
       refine eA 7 rfl krQ (fun _ _ _ h => h) hR0 rfl (fun _ hS => Yld.move hS rfl) ?_
       refine eA 8 rfl krQ (fun _ _ _ h => h) hR0 rfl (fun _ hS => Yld.extract hS rfl rfl) ?_
       refine eA 9 rfl krQ (fun _ _ _ h => h) hR0 rfl (fun _ hS => Yld.extract hS rfl rfl) ?_
       refine eA 10 rfl krQ (fun _ _ _ h => h) hR0 rfl (fun _ hS => Yld.assign hS rfl) ?_
       refine eA 11 rfl krQ (fun _ _ _ h => h) hR0 rfl (fun _ hS => Yld.assign hS rfl) ?_
       intro aa hS
       refine wpAnyH_done krQ ?_ _; clear hR0
       refine hK793 _ _ ?_
       refine wp_seq_k ?_; intro K794 hK794
       refine drawn krQ hR (Ex.of_pk (r := sls r _ _ _ _ _) pkQ) ?_; clear hR; intro ww hR hR0
       revert aa
       refine eA 0 rfl krQ (fun _ _ _ h => h) hR0 rfl (fun _ hS => Yld.load1 hS rfl Tryz.underlying29 rfl rdQ) ?_
       refine eA 1 rfl krQ (fun _ _ _ h => h) hR0 rfl (fun _ hS => Yld.nilCheck hS rfl) ?_
       refine eA 2 rfl krQ (fun _ _ _ h => h) hR0 rfl (fun _ hS => Yld.fieldAddr hS rfl 0 Tryz.underlying59 rfl rfl info57 (by decide)) ?_
       refine eA 3 rfl krQ (fun _ _ _ h => h) hR0 rfl (fun _ hS => Yld.fieldAddr hS rfl 3 Tryz.underlying57 rfl rfl info55 (by decide)) ?_
       refine eA 4 rfl krQ (fun _ _ _ h => h) hR0 rfl (fun _ hS => Yld.load1 hS rfl Tryz.underlying55 rfl rdQ) ?_
       refine eA 5 rfl krQ (fun _ _ _ h => h) hR0 rfl (fun _ hS => Yld.move hS rfl) ?_
       intro aa hS
       refine dA 6 rfl krQ krQ krQ (fun _ _ _ h => h) hS hR0 (Yld.loadAgg hS rfl Tryz.underlying67 rfl info67 rdsQ2 (by rfl)) (by decide) ?_; clear hS; intro aa hS
       revert aa
       refine eA 7 rfl krQ (fun _ _ _ h => h) hR0 rfl (fun _ hS => ihQ 2 (q) Tryz.underlying55 info67) ?_
       intro aa hS
       refine dOne (i := 8) krQ ?_
       refine dop rfl (BstoreR0 (((bkD t p u D.T D.B a n) - p, n)) hS hR rfl rfl (by rfl) info67 (by rfl) pkQ (by rfl) (by intro _; rfl) (by omega) (by first | exact Nat.le_of_ble_eq_true rfl | (simp only [List.length_singleton]; omega)) (Nat.le_of_ble_eq_true rfl) (by rfl) ?_); clear hR hR0; intro ww hR
       refine dnext (hR.sub exQ) ?_; intro hR0
       refine wpAnyH_done krQ ?_ _; clear hR0
       refine hK794 _ _ ?_
       refine wp_seq_k ?_; intro K795 hK795
       refine wp_region_lit ?_
       refine sA hS hR (Yld.loadAgg hS rfl Tryz.underlying43 rfl info43 rdsQ4 (by rfl)) (by decide) ?_; clear hS; intro aa hS
       refine sB (Bstore hS hR rfl rfl (by rfl) info43 (by rfl) pkQ (by rfl) (Nat.le_of_ble_eq_true rfl) ?_); clear hR; intro ww hR
       revert aa
       refine qN hR ?_
       intro aa hS
       refine wpList_nil ?_
       refine hK795 _ _ ?_
       refine wp_ret ?_
       repeat first | with_reducible refine thenR ?_ | with_reducible refine blockR ?_ | with_reducible refine scopeR ?_
       refine retN (fn := Tryz.f20) (e := .ret) (.inl rfl) Tryz.results20 hS hR ⟨_, .cons (.agg rfl Tryz.underlying43 rfl info43 (Rds.cons (Rd.blk pkQ (by rfl)) (Rds.cons (Rd.blk pkQ (by rfl)) (Rds.cons (Rd.blk pkQ (by rfl)) (Rds.cons (Rd.blk pkQ (by rfl)) (Rds.nil))))) (by rfl)) (.cons (.tmp rfl) (.nil)), rfl, ?_⟩
       try dsimp only [lay, List.set] at hR
       rw [hst]
       dsimp only [setB, opnD, clsD, atD]
       exact ⟨rfl, Sep.deskI (t := dd) (b := b) (hR.sub exQ)⟩
  refine drawn krQ hR Ex.refl ?_; clear hR; intro ww hR hR0
  revert aa
  refine eA 0 rfl krQ (fun _ _ _ h => h) hR0 rfl (fun _ hS => Yld.load1 hS rfl Tryz.underlying29 rfl rdQ) ?_
  refine eA 1 rfl krQ (fun _ _ _ h => h) hR0 rfl (fun _ hS => Yld.nilCheck hS rfl) ?_
  refine eA 2 rfl krQ (fun _ _ _ h => h) hR0 rfl (fun _ hS => Yld.fieldAddr hS rfl 4 Tryz.underlying59 rfl rfl info33 (by decide)) ?_
  refine eA 3 rfl krQ (fun _ _ _ h => h) hR0 rfl (fun _ hS => Yld.fieldAddr hS rfl 2 Tryz.underlying33 rfl rfl info31 (by decide)) ?_
  intro aa hS
  refine dA 4 rfl krQ krQ krQ (fun _ _ _ h => h) hS hR0 (Yld.loadAgg hS rfl Tryz.underlying31 rfl info31 rdsQ3 (by rfl)) (by decide) ?_; clear hS; intro aa hS
  revert aa
  refine eA 5 rfl krQ (fun _ _ _ h => h) hR0 rfl (fun _ hS => Yld.load1 hS rfl Tryz.underlying29 rfl rdQ) ?_
  refine eA 6 rfl krQ (fun _ _ _ h => h) hR0 rfl (fun _ hS => Yld.load1 hS rfl Tryz.underlying25 rfl rdQ) ?_
  refine eA 7 rfl krQ (fun _ _ _ h => h) hR0 rfl (fun _ hS => Yld.move hS rfl) ?_
  refine eA 9 rfl krQ (fun _ _ _ h => h) hR0 rfl (fun _ hS => Yld.move hS rfl) ?_
  intro aa hS
  refine dThree (i := 8) (j := 14) (m := 15) krQ ?_ ?_ ?_
  ·
   refine dop rfl (Bcall hS rfl Tryz.call49 (adbucket_ok ha hD.rr hn0 hbl (fun q hq => hD.got hn hq) (((hR.pk (r := sls r _ _ _ _ _) pkQ).pk (r := sourceA _ bs _ _ _) pkQ).pk (r := blk b _ 59) pkQ)) (by decide) ?_); clear hS; intro aa ww vv hS hp
   clear hR hR0
   obtain ⟨rfl, hR⟩ := hp
   refine dnext (hR.sub exQ) ?_; intro hR0
   refine dThree (i := 10) (j := 14) (m := 15) krQ ?_ ?_ ?_
   ·
    refine dop rfl (Bcall hS rfl Tryz.call48 (bkTake_ok hR) (by decide) ?_); clear hS; intro aa ww vv hS hp
    clear hR hR0
    obtain ⟨rfl, hR⟩ := hp
    rw [hz] at hS
    refine dnext (hR.sub exQ) ?_; intro hR0
    revert aa
    refine eA 11 rfl krQ (fun _ _ _ h => h) hR0 rfl (fun _ hS => Yld.move hS rfl) ?_
    refine eA 12 rfl krQ (fun _ _ _ h => h) hR0 rfl (fun _ hS => Yld.extract hS rfl rfl) ?_
    refine eA 13 rfl krQ (fun _ _ _ h => h) hR0 rfl (fun _ hS => Yld.extract hS rfl rfl) ?_
    intro aa hS
    refine dTwo (i := 14) (j := 15) krQ ?_ ?_
    ·
     refine dop rfl (Balloc hS hR info67 (by rfl) (by rfl) (by decide) ?_); clear hS hR hR0; intro aa ww bb9 hS hR
     refine dnext (hR.sub exQ) ?_; intro hR0
     refine dOne (i := 15) krQ ?_
     refine dop rfl (Balloc hS hR info61 (by rfl) (by rfl) (by decide) ?_); clear hS hR hR0; intro aa ww bb10 hS hR
     refine dnext (hR.sub exQ) ?_; intro hR0
     refine dOne (i := 16) krQ ?_
     refine dop rfl (Bstore hS hR rfl rfl (by rfl) info67 (by rfl) pkQ (by rfl) (Nat.le_of_ble_eq_true rfl) ?_); clear hR hR0; intro ww hR
     refine dnext (hR.sub exQ) ?_; intro hR0
     refine dOne (i := 17) krQ ?_
     refine dop rfl (Bstore hS hR rfl rfl (by rfl) info61 (by rfl) pkQ (by rfl) (Nat.le_of_ble_eq_true rfl) ?_); clear hR hR0; intro ww hR
     refine dnext (hR.sub exQ) ?_; intro hR0
     refine wpAnyH_done krQ ?_ _; clear hR0
     try dsimp only [lay, List.set] at hR
     exact tail761 bb8 bb9 bb10 _ _ (hS.le (Le.cons rfl (Le.cons rfl (Le.cons rfl (Le.cons rfl (Le.cons rfl (Le.cons rfl (Le.nil _)))))))) (hR.sub exQ)
    ·
     refine dop rfl (Balloc hS hR info61 (by rfl) (by rfl) (by decide) ?_); clear hS hR hR0; intro aa ww bb10 hS hR
     refine dnext (hR.sub exQ) ?_; intro hR0
     refine dOne (i := 14) krQ ?_
     refine dop rfl (Balloc hS hR info67 (by rfl) (by rfl) (by decide) ?_); clear hS hR hR0; intro aa ww bb9 hS hR
     refine dnext (hR.sub exQ) ?_; intro hR0
     refine dOne (i := 16) krQ ?_
     refine dop rfl (Bstore hS hR rfl rfl (by rfl) info67 (by rfl) pkQ (by rfl) (Nat.le_of_ble_eq_true rfl) ?_); clear hR hR0; intro ww hR
     refine dnext (hR.sub exQ) ?_; intro hR0
     refine dOne (i := 17) krQ ?_
     refine dop rfl (Bstore hS hR rfl rfl (by rfl) info61 (by rfl) pkQ (by rfl) (Nat.le_of_ble_eq_true rfl) ?_); clear hR hR0; intro ww hR
     refine dnext (hR.sub exQ) ?_; intro hR0
     refine wpAnyH_done krQ ?_ _; clear hR0
     try dsimp only [lay, List.set] at hR
     exact tail761 bb8 bb9 bb10 _ _ (hS.le (Le.cons rfl (Le.cons rfl (Le.cons rfl (Le.cons rfl (Le.cons rfl (Le.cons rfl (Le.nil _)))))))) (hR.sub exQ)
   ·
    refine dop rfl (Balloc hS hR info67 (by rfl) (by rfl) (by decide) ?_); clear hS hR hR0; intro aa ww bb9 hS hR
    refine dnext (hR.sub exQ) ?_; intro hR0
    refine dTwo (i := 10) (j := 15) krQ ?_ ?_
    ·
     refine dop rfl (Bcall hS rfl Tryz.call48 (bkTake_ok hR) (by decide) ?_); clear hS; intro aa ww vv hS hp
     clear hR hR0
     obtain ⟨rfl, hR⟩ := hp
     rw [hz] at hS
     refine dnext (hR.sub exQ) ?_; intro hR0
     revert aa
     refine eA 11 rfl krQ (fun _ _ _ h => h) hR0 rfl (fun _ hS => Yld.move hS rfl) ?_
     refine eA 12 rfl krQ (fun _ _ _ h => h) hR0 rfl (fun _ hS => Yld.extract hS rfl rfl) ?_
     refine eA 13 rfl krQ (fun _ _ _ h => h) hR0 rfl (fun _ hS => Yld.extract hS rfl rfl) ?_
     intro aa hS
     refine dOne (i := 15) krQ ?_
     refine dop rfl (Balloc hS hR info61 (by rfl) (by rfl) (by decide) ?_); clear hS hR hR0; intro aa ww bb10 hS hR
     refine dnext (hR.sub exQ) ?_; intro hR0
     refine dOne (i := 16) krQ ?_
     refine dop rfl (Bstore hS hR rfl rfl (by rfl) info67 (by rfl) pkQ (by rfl) (Nat.le_of_ble_eq_true rfl) ?_); clear hR hR0; intro ww hR
     refine dnext (hR.sub exQ) ?_; intro hR0
     refine dOne (i := 17) krQ ?_
     refine dop rfl (Bstore hS hR rfl rfl (by rfl) info61 (by rfl) pkQ (by rfl) (Nat.le_of_ble_eq_true rfl) ?_); clear hR hR0; intro ww hR
     refine dnext (hR.sub exQ) ?_; intro hR0
     refine wpAnyH_done krQ ?_ _; clear hR0
     try dsimp only [lay, List.set] at hR
     exact tail761 bb8 bb9 bb10 _ _ (hS.le (Le.cons rfl (Le.cons rfl (Le.cons rfl (Le.cons rfl (Le.cons rfl (Le.cons rfl (Le.nil _)))))))) (hR.sub exQ)
    ·
     refine dop rfl (Balloc hS hR info61 (by rfl) (by rfl) (by decide) ?_); clear hS hR hR0; intro aa ww bb10 hS hR
     refine dnext (hR.sub exQ) ?_; intro hR0
     refine dOne (i := 10) krQ ?_
     refine dop rfl (Bcall hS rfl Tryz.call48 (bkTake_ok hR) (by decide) ?_); clear hS; intro aa ww vv hS hp
     clear hR hR0
     obtain ⟨rfl, hR⟩ := hp
     rw [hz] at hS
     refine dnext (hR.sub exQ) ?_; intro hR0
     revert aa
     refine eA 11 rfl krQ (fun _ _ _ h => h) hR0 rfl (fun _ hS => Yld.move hS rfl) ?_
     refine eA 12 rfl krQ (fun _ _ _ h => h) hR0 rfl (fun _ hS => Yld.extract hS rfl rfl) ?_
     refine eA 13 rfl krQ (fun _ _ _ h => h) hR0 rfl (fun _ hS => Yld.extract hS rfl rfl) ?_
     intro aa hS
     refine dOne (i := 16) krQ ?_
     refine dop rfl (Bstore hS hR rfl rfl (by rfl) info67 (by rfl) pkQ (by rfl) (Nat.le_of_ble_eq_true rfl) ?_); clear hR hR0; intro ww hR
     refine dnext (hR.sub exQ) ?_; intro hR0
     refine dOne (i := 17) krQ ?_
     refine dop rfl (Bstore hS hR rfl rfl (by rfl) info61 (by rfl) pkQ (by rfl) (Nat.le_of_ble_eq_true rfl) ?_); clear hR hR0; intro ww hR
     refine dnext (hR.sub exQ) ?_; intro hR0
     refine wpAnyH_done krQ ?_ _; clear hR0
     try dsimp only [lay, List.set] at hR
     exact tail761 bb8 bb9 bb10 _ _ (hS.le (Le.cons rfl (Le.cons rfl (Le.cons rfl (Le.cons rfl (Le.cons rfl (Le.cons rfl (Le.nil _)))))))) (hR.sub exQ)
   ·
    refine dop rfl (Balloc hS hR info61 (by rfl) (by rfl) (by decide) ?_); clear hS hR hR0; intro aa ww bb10 hS hR
    refine dnext (hR.sub exQ) ?_; intro hR0
    refine dTwo (i := 10) (j := 14) krQ ?_ ?_
    ·
     refine dop rfl (Bcall hS rfl Tryz.call48 (bkTake_ok hR) (by decide) ?_); clear hS; intro aa ww vv hS hp
     clear hR hR0
     obtain ⟨rfl, hR⟩ := hp
     rw [hz] at hS
     refine dnext (hR.sub exQ) ?_; intro hR0
     revert aa
     refine eA 11 rfl krQ (fun _ _ _ h => h) hR0 rfl (fun _ hS => Yld.move hS rfl) ?_
     refine eA 12 rfl krQ (fun _ _ _ h => h) hR0 rfl (fun _ hS => Yld.extract hS rfl rfl) ?_
     refine eA 13 rfl krQ (fun _ _ _ h => h) hR0 rfl (fun _ hS => Yld.extract hS rfl rfl) ?_
     intro aa hS
     refine dOne (i := 14) krQ ?_
     refine dop rfl (Balloc hS hR info67 (by rfl) (by rfl) (by decide) ?_); clear hS hR hR0; intro aa ww bb9 hS hR
     refine dnext (hR.sub exQ) ?_; intro hR0
     refine dOne (i := 16) krQ ?_
     refine dop rfl (Bstore hS hR rfl rfl (by rfl) info67 (by rfl) pkQ (by rfl) (Nat.le_of_ble_eq_true rfl) ?_); clear hR hR0; intro ww hR
     refine dnext (hR.sub exQ) ?_; intro hR0
     refine dOne (i := 17) krQ ?_
     refine dop rfl (Bstore hS hR rfl rfl (by rfl) info61 (by rfl) pkQ (by rfl) (Nat.le_of_ble_eq_true rfl) ?_); clear hR hR0; intro ww hR
     refine dnext (hR.sub exQ) ?_; intro hR0
     refine wpAnyH_done krQ ?_ _; clear hR0
     try dsimp only [lay, List.set] at hR
     exact tail761 bb8 bb9 bb10 _ _ (hS.le (Le.cons rfl (Le.cons rfl (Le.cons rfl (Le.cons rfl (Le.cons rfl (Le.cons rfl (Le.nil _)))))))) (hR.sub exQ)
    ·
     refine dop rfl (Balloc hS hR info67 (by rfl) (by rfl) (by decide) ?_); clear hS hR hR0; intro aa ww bb9 hS hR
     refine dnext (hR.sub exQ) ?_; intro hR0
     refine dOne (i := 10) krQ ?_
     refine dop rfl (Bcall hS rfl Tryz.call48 (bkTake_ok hR) (by decide) ?_); clear hS; intro aa ww vv hS hp
     clear hR hR0
     obtain ⟨rfl, hR⟩ := hp
     rw [hz] at hS
     refine dnext (hR.sub exQ) ?_; intro hR0
     revert aa
     refine eA 11 rfl krQ (fun _ _ _ h => h) hR0 rfl (fun _ hS => Yld.move hS rfl) ?_
     refine eA 12 rfl krQ (fun _ _ _ h => h) hR0 rfl (fun _ hS => Yld.extract hS rfl rfl) ?_
     refine eA 13 rfl krQ (fun _ _ _ h => h) hR0 rfl (fun _ hS => Yld.extract hS rfl rfl) ?_
     intro aa hS
     refine dOne (i := 16) krQ ?_
     refine dop rfl (Bstore hS hR rfl rfl (by rfl) info67 (by rfl) pkQ (by rfl) (Nat.le_of_ble_eq_true rfl) ?_); clear hR hR0; intro ww hR
     refine dnext (hR.sub exQ) ?_; intro hR0
     refine dOne (i := 17) krQ ?_
     refine dop rfl (Bstore hS hR rfl rfl (by rfl) info61 (by rfl) pkQ (by rfl) (Nat.le_of_ble_eq_true rfl) ?_); clear hR hR0; intro ww hR
     refine dnext (hR.sub exQ) ?_; intro hR0
     refine wpAnyH_done krQ ?_ _; clear hR0
     try dsimp only [lay, List.set] at hR
     exact tail761 bb8 bb9 bb10 _ _ (hS.le (Le.cons rfl (Le.cons rfl (Le.cons rfl (Le.cons rfl (Le.cons rfl (Le.cons rfl (Le.nil _)))))))) (hR.sub exQ)
  ·
   refine dop rfl (Balloc hS hR info67 (by rfl) (by rfl) (by decide) ?_); clear hS hR hR0; intro aa ww bb9 hS hR
   refine dnext (hR.sub exQ) ?_; intro hR0
   refine dTwo (i := 8) (j := 15) krQ ?_ ?_
   ·
    refine dop rfl (Bcall hS rfl Tryz.call49 (adbucket_ok ha hD.rr hn0 hbl (fun q hq => hD.got hn hq) (((hR.pk (r := sls r _ _ _ _ _) pkQ).pk (r := sourceA _ bs _ _ _) pkQ).pk (r := blk b _ 59) pkQ)) (by decide) ?_); clear hS; intro aa ww vv hS hp
    clear hR hR0
    obtain ⟨rfl, hR⟩ := hp
    refine dnext (hR.sub exQ) ?_; intro hR0
    refine dTwo (i := 10) (j := 15) krQ ?_ ?_
    ·
     refine dop rfl (Bcall hS rfl Tryz.call48 (bkTake_ok hR) (by decide) ?_); clear hS; intro aa ww vv hS hp
     clear hR hR0
     obtain ⟨rfl, hR⟩ := hp
     rw [hz] at hS
     refine dnext (hR.sub exQ) ?_; intro hR0
     revert aa
     refine eA 11 rfl krQ (fun _ _ _ h => h) hR0 rfl (fun _ hS => Yld.move hS rfl) ?_
     refine eA 12 rfl krQ (fun _ _ _ h => h) hR0 rfl (fun _ hS => Yld.extract hS rfl rfl) ?_
     refine eA 13 rfl krQ (fun _ _ _ h => h) hR0 rfl (fun _ hS => Yld.extract hS rfl rfl) ?_
     intro aa hS
     refine dOne (i := 15) krQ ?_
     refine dop rfl (Balloc hS hR info61 (by rfl) (by rfl) (by decide) ?_); clear hS hR hR0; intro aa ww bb10 hS hR
     refine dnext (hR.sub exQ) ?_; intro hR0
     refine dOne (i := 16) krQ ?_
     refine dop rfl (Bstore hS hR rfl rfl (by rfl) info67 (by rfl) pkQ (by rfl) (Nat.le_of_ble_eq_true rfl) ?_); clear hR hR0; intro ww hR
     refine dnext (hR.sub exQ) ?_; intro hR0
     refine dOne (i := 17) krQ ?_
     refine dop rfl (Bstore hS hR rfl rfl (by rfl) info61 (by rfl) pkQ (by rfl) (Nat.le_of_ble_eq_true rfl) ?_); clear hR hR0; intro ww hR
     refine dnext (hR.sub exQ) ?_; intro hR0
     refine wpAnyH_done krQ ?_ _; clear hR0
     try dsimp only [lay, List.set] at hR
     exact tail761 bb8 bb9 bb10 _ _ (hS.le (Le.cons rfl (Le.cons rfl (Le.cons rfl (Le.cons rfl (Le.cons rfl (Le.cons rfl (Le.nil _)))))))) (hR.sub exQ)
    ·
     refine dop rfl (Balloc hS hR info61 (by rfl) (by rfl) (by decide) ?_); clear hS hR hR0; intro aa ww bb10 hS hR
     refine dnext (hR.sub exQ) ?_; intro hR0
     refine dOne (i := 10) krQ ?_
     refine dop rfl (Bcall hS rfl Tryz.call48 (bkTake_ok hR) (by decide) ?_); clear hS; intro aa ww vv hS hp
     clear hR hR0
     obtain ⟨rfl, hR⟩ := hp
     rw [hz] at hS
     refine dnext (hR.sub exQ) ?_; intro hR0
     revert aa
     refine eA 11 rfl krQ (fun _ _ _ h => h) hR0 rfl (fun _ hS => Yld.move hS rfl) ?_
     refine eA 12 rfl krQ (fun _ _ _ h => h) hR0 rfl (fun _ hS => Yld.extract hS rfl rfl) ?_
     refine eA 13 rfl krQ (fun _ _ _ h => h) hR0 rfl (fun _ hS => Yld.extract hS rfl rfl) ?_
     intro aa hS
     refine dOne (i := 16) krQ ?_
     refine dop rfl (Bstore hS hR rfl rfl (by rfl) info67 (by rfl) pkQ (by rfl) (Nat.le_of_ble_eq_true rfl) ?_); clear hR hR0; intro ww hR
     refine dnext (hR.sub exQ) ?_; intro hR0
     refine dOne (i := 17) krQ ?_
     refine dop rfl (Bstore hS hR rfl rfl (by rfl) info61 (by rfl) pkQ (by rfl) (Nat.le_of_ble_eq_true rfl) ?_); clear hR hR0; intro ww hR
     refine dnext (hR.sub exQ) ?_; intro hR0
     refine wpAnyH_done krQ ?_ _; clear hR0
     try dsimp only [lay, List.set] at hR
     exact tail761 bb8 bb9 bb10 _ _ (hS.le (Le.cons rfl (Le.cons rfl (Le.cons rfl (Le.cons rfl (Le.cons rfl (Le.cons rfl (Le.nil _)))))))) (hR.sub exQ)
   ·
    refine dop rfl (Balloc hS hR info61 (by rfl) (by rfl) (by decide) ?_); clear hS hR hR0; intro aa ww bb10 hS hR
    refine dnext (hR.sub exQ) ?_; intro hR0
    refine dOne (i := 8) krQ ?_
    refine dop rfl (Bcall hS rfl Tryz.call49 (adbucket_ok ha hD.rr hn0 hbl (fun q hq => hD.got hn hq) (((hR.pk (r := sls r _ _ _ _ _) pkQ).pk (r := sourceA _ bs _ _ _) pkQ).pk (r := blk b _ 59) pkQ)) (by decide) ?_); clear hS; intro aa ww vv hS hp
    clear hR hR0
    obtain ⟨rfl, hR⟩ := hp
    refine dnext (hR.sub exQ) ?_; intro hR0
    refine dOne (i := 10) krQ ?_
    refine dop rfl (Bcall hS rfl Tryz.call48 (bkTake_ok hR) (by decide) ?_); clear hS; intro aa ww vv hS hp
    clear hR hR0
    obtain ⟨rfl, hR⟩ := hp
    rw [hz] at hS
    refine dnext (hR.sub exQ) ?_; intro hR0
    revert aa
    refine eA 11 rfl krQ (fun _ _ _ h => h) hR0 rfl (fun _ hS => Yld.move hS rfl) ?_
    refine eA 12 rfl krQ (fun _ _ _ h => h) hR0 rfl (fun _ hS => Yld.extract hS rfl rfl) ?_
    refine eA 13 rfl krQ (fun _ _ _ h => h) hR0 rfl (fun _ hS => Yld.extract hS rfl rfl) ?_
    intro aa hS
    refine dOne (i := 16) krQ ?_
    refine dop rfl (Bstore hS hR rfl rfl (by rfl) info67 (by rfl) pkQ (by rfl) (Nat.le_of_ble_eq_true rfl) ?_); clear hR hR0; intro ww hR
    refine dnext (hR.sub exQ) ?_; intro hR0
    refine dOne (i := 17) krQ ?_
    refine dop rfl (Bstore hS hR rfl rfl (by rfl) info61 (by rfl) pkQ (by rfl) (Nat.le_of_ble_eq_true rfl) ?_); clear hR hR0; intro ww hR
    refine dnext (hR.sub exQ) ?_; intro hR0
    refine wpAnyH_done krQ ?_ _; clear hR0
    try dsimp only [lay, List.set] at hR
    exact tail761 bb8 bb9 bb10 _ _ (hS.le (Le.cons rfl (Le.cons rfl (Le.cons rfl (Le.cons rfl (Le.cons rfl (Le.cons rfl (Le.nil _)))))))) (hR.sub exQ)
  ·
   refine dop rfl (Balloc hS hR info61 (by rfl) (by rfl) (by decide) ?_); clear hS hR hR0; intro aa ww bb10 hS hR
   refine dnext (hR.sub exQ) ?_; intro hR0
   refine dTwo (i := 8) (j := 14) krQ ?_ ?_
   ·
    refine dop rfl (Bcall hS rfl Tryz.call49 (adbucket_ok ha hD.rr hn0 hbl (fun q hq => hD.got hn hq) (((hR.pk (r := sls r _ _ _ _ _) pkQ).pk (r := sourceA _ bs _ _ _) pkQ).pk (r := blk b _ 59) pkQ)) (by decide) ?_); clear hS; intro aa ww vv hS hp
    clear hR hR0
    obtain ⟨rfl, hR⟩ := hp
    refine dnext (hR.sub exQ) ?_; intro hR0
    refine dTwo (i := 10) (j := 14) krQ ?_ ?_
    ·
     refine dop rfl (Bcall hS rfl Tryz.call48 (bkTake_ok hR) (by decide) ?_); clear hS; intro aa ww vv hS hp
     clear hR hR0
     obtain ⟨rfl, hR⟩ := hp
     rw [hz] at hS
     refine dnext (hR.sub exQ) ?_; intro hR0
     revert aa
     refine eA 11 rfl krQ (fun _ _ _ h => h) hR0 rfl (fun _ hS => Yld.move hS rfl) ?_
     refine eA 12 rfl krQ (fun _ _ _ h => h) hR0 rfl (fun _ hS => Yld.extract hS rfl rfl) ?_
     refine eA 13 rfl krQ (fun _ _ _ h => h) hR0 rfl (fun _ hS => Yld.extract hS rfl rfl) ?_
     intro aa hS
     refine dOne (i := 14) krQ ?_
     refine dop rfl (Balloc hS hR info67 (by rfl) (by rfl) (by decide) ?_); clear hS hR hR0; intro aa ww bb9 hS hR
     refine dnext (hR.sub exQ) ?_; intro hR0
     refine dOne (i := 16) krQ ?_
     refine dop rfl (Bstore hS hR rfl rfl (by rfl) info67 (by rfl) pkQ (by rfl) (Nat.le_of_ble_eq_true rfl) ?_); clear hR hR0; intro ww hR
     refine dnext (hR.sub exQ) ?_; intro hR0
     refine dOne (i := 17) krQ ?_
     refine dop rfl (Bstore hS hR rfl rfl (by rfl) info61 (by rfl) pkQ (by rfl) (Nat.le_of_ble_eq_true rfl) ?_); clear hR hR0; intro ww hR
     refine dnext (hR.sub exQ) ?_; intro hR0
     refine wpAnyH_done krQ ?_ _; clear hR0
     try dsimp only [lay, List.set] at hR
     exact tail761 bb8 bb9 bb10 _ _ (hS.le (Le.cons rfl (Le.cons rfl (Le.cons rfl (Le.cons rfl (Le.cons rfl (Le.cons rfl (Le.nil _)))))))) (hR.sub exQ)
    ·
     refine dop rfl (Balloc hS hR info67 (by rfl) (by rfl) (by decide) ?_); clear hS hR hR0; intro aa ww bb9 hS hR
     refine dnext (hR.sub exQ) ?_; intro hR0
     refine dOne (i := 10) krQ ?_
     refine dop rfl (Bcall hS rfl Tryz.call48 (bkTake_ok hR) (by decide) ?_); clear hS; intro aa ww vv hS hp
     clear hR hR0
     obtain ⟨rfl, hR⟩ := hp
     rw [hz] at hS
     refine dnext (hR.sub exQ) ?_; intro hR0
     revert aa
     refine eA 11 rfl krQ (fun _ _ _ h => h) hR0 rfl (fun _ hS => Yld.move hS rfl) ?_
     refine eA 12 rfl krQ (fun _ _ _ h => h) hR0 rfl (fun _ hS => Yld.extract hS rfl rfl) ?_
     refine eA 13 rfl krQ (fun _ _ _ h => h) hR0 rfl (fun _ hS => Yld.extract hS rfl rfl) ?_
     intro aa hS
     refine dOne (i := 16) krQ ?_
     refine dop rfl (Bstore hS hR rfl rfl (by rfl) info67 (by rfl) pkQ (by rfl) (Nat.le_of_ble_eq_true rfl) ?_); clear hR hR0; intro ww hR
     refine dnext (hR.sub exQ) ?_; intro hR0
     refine dOne (i := 17) krQ ?_
     refine dop rfl (Bstore hS hR rfl rfl (by rfl) info61 (by rfl) pkQ (by rfl) (Nat.le_of_ble_eq_true rfl) ?_); clear hR hR0; intro ww hR
     refine dnext (hR.sub exQ) ?_; intro hR0
     refine wpAnyH_done krQ ?_ _; clear hR0
     try dsimp only [lay, List.set] at hR
     exact tail761 bb8 bb9 bb10 _ _ (hS.le (Le.cons rfl (Le.cons rfl (Le.cons rfl (Le.cons rfl (Le.cons rfl (Le.cons rfl (Le.nil _)))))))) (hR.sub exQ)
   ·
    refine dop rfl (Balloc hS hR info67 (by rfl) (by rfl) (by decide) ?_); clear hS hR hR0; intro aa ww bb9 hS hR
    refine dnext (hR.sub exQ) ?_; intro hR0
    refine dOne (i := 8) krQ ?_
    refine dop rfl (Bcall hS rfl Tryz.call49 (adbucket_ok ha hD.rr hn0 hbl (fun q hq => hD.got hn hq) (((hR.pk (r := sls r _ _ _ _ _) pkQ).pk (r := sourceA _ bs _ _ _) pkQ).pk (r := blk b _ 59) pkQ)) (by decide) ?_); clear hS; intro aa ww vv hS hp
    clear hR hR0
    obtain ⟨rfl, hR⟩ := hp
    refine dnext (hR.sub exQ) ?_; intro hR0
    refine dOne (i := 10) krQ ?_
    refine dop rfl (Bcall hS rfl Tryz.call48 (bkTake_ok hR) (by decide) ?_); clear hS; intro aa ww vv hS hp
    clear hR hR0
    obtain ⟨rfl, hR⟩ := hp
    rw [hz] at hS
    refine dnext (hR.sub exQ) ?_; intro hR0
    revert aa
    refine eA 11 rfl krQ (fun _ _ _ h => h) hR0 rfl (fun _ hS => Yld.move hS rfl) ?_
    refine eA 12 rfl krQ (fun _ _ _ h => h) hR0 rfl (fun _ hS => Yld.extract hS rfl rfl) ?_
    refine eA 13 rfl krQ (fun _ _ _ h => h) hR0 rfl (fun _ hS => Yld.extract hS rfl rfl) ?_
    intro aa hS
    refine dOne (i := 16) krQ ?_
    refine dop rfl (Bstore hS hR rfl rfl (by rfl) info67 (by rfl) pkQ (by rfl) (Nat.le_of_ble_eq_true rfl) ?_); clear hR hR0; intro ww hR
    refine dnext (hR.sub exQ) ?_; intro hR0
    refine dOne (i := 17) krQ ?_
    refine dop rfl (Bstore hS hR rfl rfl (by rfl) info61 (by rfl) pkQ (by rfl) (Nat.le_of_ble_eq_true rfl) ?_); clear hR hR0; intro ww hR
    refine dnext (hR.sub exQ) ?_; intro hR0
    refine wpAnyH_done krQ ?_ _; clear hR0
    try dsimp only [lay, List.set] at hR
    exact tail761 bb8 bb9 bb10 _ _ (hS.le (Le.cons rfl (Le.cons rfl (Le.cons rfl (Le.cons rfl (Le.cons rfl (Le.cons rfl (Le.nil _)))))))) (hR.sub exQ)
 refine drawn krQ hR Ex.refl ?_; clear hR; intro ww hR hR0
 revert aa
 refine eA 0 rfl krQ (fun _ _ _ h => h) hR0 rfl (fun _ hS => Yld.load1 hS rfl Tryz.underlying29 rfl rdQ) ?_
 refine eA 1 rfl krQ (fun _ _ _ h => h) hR0 rfl (fun _ hS => Yld.nilCheck hS rfl) ?_
 refine eA 2 rfl krQ (fun _ _ _ h => h) hR0 rfl (fun _ hS => Yld.fieldAddr hS rfl 0 Tryz.underlying59 rfl rfl info57 (by decide)) ?_
 refine eA 3 rfl krQ (fun _ _ _ h => h) hR0 rfl (fun _ hS => Yld.fieldAddr hS rfl 0 Tryz.underlying57 rfl rfl info52 (by decide)) ?_
 refine eA 4 rfl krQ (fun _ _ _ h => h) hR0 rfl (fun _ hS => Yld.load1 hS rfl Tryz.underlying52 rfl rdQ) ?_
 refine eA 6 rfl krQ (fun _ _ _ h => h) hR0 rfl (fun _ hS => Yld.load1 hS rfl Tryz.underlying29 rfl rdQ) ?_
 refine eA 7 rfl krQ (fun _ _ _ h => h) hR0 rfl (fun _ hS => Yld.nilCheck hS rfl) ?_
 refine eA 8 rfl krQ (fun _ _ _ h => h) hR0 rfl (fun _ hS => Yld.fieldAddr hS rfl 4 Tryz.underlying59 rfl rfl info33 (by decide)) ?_
 refine eA 9 rfl krQ (fun _ _ _ h => h) hR0 rfl (fun _ hS => Yld.fieldAddr hS rfl 0 Tryz.underlying33 rfl rfl info3 (by decide)) ?_
 refine eA 10 rfl krQ (fun _ _ _ h => h) hR0 rfl (fun _ hS => Yld.load1 hS rfl Tryz.underlying3 rfl rdQ) ?_
 intro aa hS
 refine dTwo (i := 5) (j := 12) krQ ?_ ?_
 ·
  refine dop rfl (Bcall hS rfl Tryz.call47 (Count_okA (hR.pk (r := arena _ _ ba _) pkQ)) (by decide) ?_); clear hS; intro aa ww vv hS hp
  clear hR hR0
  obtain ⟨rfl, hR⟩ := hp
  refine dnext (hR.sub exQ) ?_; intro hR0
  revert aa
  refine eA 11 rfl krQ (fun _ _ _ h => h) hR0 rfl (fun _ hS => Yld.eql hS rfl rfl) ?_
  intro aa hS
  refine dOne (i := 12) krQ ?_
  refine dop rfl (Balloc hS hR info4 (by rfl) (by rfl) (by decide) ?_); clear hS hR hR0; intro aa ww bb8 hS hR
  refine dnext (hR.sub exQ) ?_; intro hR0
  refine dOne (i := 13) krQ ?_
  refine dop rfl (Bstore hS hR rfl rfl (by rfl) info4 (by rfl) pkQ (by rfl) (Nat.le_of_ble_eq_true rfl) ?_); clear hR hR0; intro ww hR
  refine dnext (hR.sub exQ) ?_; intro hR0
  refine wpAnyH_done krQ ?_ _; clear hR0
  try dsimp only [lay, List.set] at hR
  exact tail760 bb8 _ _ (hS.le (Le.cons rfl (Le.cons rfl (Le.cons rfl (Le.cons rfl (Le.cons rfl (Le.nil _))))))) (hR.sub exQ)
 ·
  refine dop rfl (Balloc hS hR info4 (by rfl) (by rfl) (by decide) ?_); clear hS hR hR0; intro aa ww bb8 hS hR
  refine dnext (hR.sub exQ) ?_; intro hR0
  refine dOne (i := 5) krQ ?_
  refine dop rfl (Bcall hS rfl Tryz.call47 (Count_okA (hR.pk (r := arena _ _ ba _) pkQ)) (by decide) ?_); clear hS; intro aa ww vv hS hp
  clear hR hR0
  obtain ⟨rfl, hR⟩ := hp
  refine dnext (hR.sub exQ) ?_; intro hR0
  revert aa
  refine eA 11 rfl krQ (fun _ _ _ h => h) hR0 rfl (fun _ hS => Yld.eql hS rfl rfl) ?_
  intro aa hS
  refine dOne (i := 13) krQ ?_
  refine dop rfl (Bstore hS hR rfl rfl (by rfl) info4 (by rfl) pkQ (by rfl) (Nat.le_of_ble_eq_true rfl) ?_); clear hR hR0; intro ww hR
  refine dnext (hR.sub exQ) ?_; intro hR0
  refine wpAnyH_done krQ ?_ _; clear hR0
  try dsimp only [lay, List.set] at hR
  exact tail760 bb8 _ _ (hS.le (Le.cons rfl (Le.cons rfl (Le.cons rfl (Le.cons rfl (Le.cons rfl (Le.nil _))))))) (hR.sub exQ)
end Go.Proofs.YtkhdejjompbklaaGreat.Sx
