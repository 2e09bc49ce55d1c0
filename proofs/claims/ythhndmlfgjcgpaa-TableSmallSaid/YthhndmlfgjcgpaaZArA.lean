/-
 
-/
import Derived.Test.YthhndmlfgjcgpaaRows
import Derived.Test.YthhndmlfgjcgpaaZPb
namespace Go.Proofs.Ythhndmlfgjcgpaa.Sx
open Go
set_option maxRecDepth 20000
set_option linter.unusedVariables false
set_option linter.unusedSimpArgs false
theorem info3 : Try.prog.info? 3 = some Try.t3 := by kernel_rfl
theorem info4 : Try.prog.info? 4 = some Try.t4 := by kernel_rfl
theorem info29 : Try.prog.info? 29 = some Try.t29 := by kernel_rfl
theorem info148 : Try.prog.info? 148 = some Try.t148 := by kernel_rfl
theorem info152 : Try.prog.info? 152 = some Try.t152 := by kernel_rfl
theorem bld150_0 (x0_a : Option Addr) (x0_n x0_c : Nat) (w : World) : (Instr.build 150 [(0, .slice x0_a x0_n x0_c)].toArray).run Try.prog w = .ok (.agg [.slice x0_a x0_n x0_c, .int .i64 0, .int .i64 0].toArray) w := by kernel_rfl
theorem bld29_  (w : World) : (Instr.build 29 [].toArray).run Try.prog w = .ok (.agg [.int .i64 0, .int .i64 0].toArray) w := by kernel_rfl
theorem eql29 (o1 o2 : Operand) (x_0 : Int) (x_1 : Int) (y_0 : Int) (y_1 : Int) (w : World) : (do eqGuard .eql 29 o1 o2 (.agg [.int .i64 x_0, .int .i64 x_1].toArray) (.agg [.int .i64 y_0, .int .i64 y_1].toArray); binOp .eql 29 (.agg [.int .i64 x_0, .int .i64 x_1].toArray) (.agg [.int .i64 y_0, .int .i64 y_1].toArray) : Sem Value).run Try.prog w = .ok (.bool (decide (x_0 = y_0 ∧ x_1 = y_1))) w := by
 by_cases h0 : x_0 = y_0
 ·
  skip
  by_cases h1 : x_1 = y_1
  ·
   simp [go_sem, h0, h1]
  ·
   simp [go_sem, h0, h1]
 ·
  simp [go_sem, h0]
theorem some_ok {b n : Nat} {q : Option Addr} {x y : Value} {l : List HP} {w : World} (hR : Sep (blk b [.slice q n n, x, y] 150 :: l) w) (hn : 0 < n) : CallR Try.prog 74 [.pointer (some ⟨b, 0, none⟩)] w (fun v w' => v = .bool true ∧ Sep (blk b [.slice q n n, x, y] 150 :: l) w') := by
 refine enter Try.func74 rfl Try.ntmps74 (Nat.le_of_ble_eq_true rfl) ?_; intro aa hS
 refine wp_seq_k ?_; intro K1 hK1
 refine wp_region_lit ?_
 revert aa
 refine qN hR ?_
 intro aa hS
 refine wpList_nil ?_
 refine hK1 _ _ ?_
 refine wp_seq_k ?_; intro K2 hK2
 refine wp_region_lit ?_
 revert aa
 refine qM hR ?_
 refine qA hR rfl (fun _ hS => Yld.neqNil hS rfl rfl Try.underlying78) ?_
 refine qB (t := 4) true rfl (by simp) ?_
 refine qM hR ?_
 refine qMg hR ?_
 refine qAg hR rfl rfl rfl (fun _ hS => Yld.nilCheck hS rfl) ?_
 refine qAg hR rfl rfl rfl (fun _ hS => Yld.fieldAddr hS rfl 0 Try.underlying150 rfl rfl info148 (by decide)) ?_
 refine qAg hR rfl rfl rfl (fun _ hS => Yld.load1 hS rfl Try.underlying148 rfl (Rd.blk pkQ (by rfl))) ?_
 refine qAg hR rfl rfl rfl (fun _ hS => Yld.len hS rfl Try.underlying148) ?_
 refine qAg hR rfl rfl rfl (fun _ hS => Yld.gtr hS rfl rfl) ?_
 refine qB (t := 11) true rfl (by simp; omega) ?_
 refine qA hR rfl (fun _ hS => Yld.pickT hS rfl rfl) ?_
 refine qN hR ?_
 intro aa hS
 refine wpList_nil ?_
 refine hK2 _ _ ?_
 refine wp_ret ?_
 repeat first | with_reducible refine thenR ?_ | with_reducible refine blockR ?_ | with_reducible refine scopeR ?_
 refine ret1 (fn := Try.f74) (e := .ret) (.inl rfl) Try.results74 hS hR ⟨_, (.tmp rfl), ?_⟩
 exact ⟨rfl, (hR.sub (by repeat (first | with_reducible exact Ex.refl | with_reducible apply Ex.drop)))⟩
theorem At_ok {A : Ar} {b br : Nat} {rs : List Srow} {l : List HP} {w : World} (hA : Rep A rs) {s : Int} (hR : Sep (blk b [.slice (some ⟨br, 0, none⟩) rs.length rs.length, .int .i64 (hd A.free), .int .i64 (cnt A.tk)] 150 :: blk br (rs.flatMap eS) 152 :: l) w) : CallR Try.prog 37 [.pointer (some ⟨b, 0, none⟩), .int .i64 s] w (fun v w' => v = atV A s ∧ Sep (blk b [.slice (some ⟨br, 0, none⟩) rs.length rs.length, .int .i64 (hd A.free), .int .i64 (cnt A.tk)] 150 :: blk br (rs.flatMap eS) 152 :: l) w') := by
 refine enter Try.func37 rfl Try.ntmps37 (Nat.le_of_ble_eq_true rfl) ?_; intro aa hS
 have hlen := hA.len
 have hpos := hA.ok.pos
 have hlt := hA.ok.len
 refine wp_seq_k ?_; intro K3 hK3
 refine wp_region_lit ?_
 refine sB (Balloc hS hR info29 (by rfl) (by rfl) (by decide) ?_); clear hS hR; intro aa ww bb4 hS hR
 revert aa
 refine qN hR ?_
 intro aa hS
 refine wpList_nil ?_
 refine hK3 _ _ ?_
 refine wp_seq_k ?_; intro K4 hK4
 refine wp_seq_k ?_; intro K5 hK5
 refine wp_region_lit ?_
 revert aa
 refine qM hR ?_
 intro aa hS
 refine sB (Bcall hS rfl Try.call74 (some_ok (hR.pk (r := blk b _ _) pkQ) (by omega)) (by decide) ?_); clear hS; intro aa ww vv hS hp
 clear hR
 obtain ⟨rfl, hR⟩ := hp
 revert aa
 refine qA hR rfl (fun _ hS => Yld.not hS rfl) ?_
 refine qM hR ?_
 refine qMg hR ?_
 refine qAg hR rfl rfl rfl (fun _ hS => Yld.lss hS rfl rfl) ?_
 refine qA hR rfl (fun _ hS => Yld.pickF hS rfl rfl) ?_
 refine qM hR ?_
 intro aa hS
 refine hS.splitB (t := 13) rfl ?_ ?_ <;> clear hS
 ·
  intro hg hS
  revert aa
  refine qZ ?_
  refine qZ ?_
  refine qZ ?_
  refine qZ ?_
  refine qZ ?_
  refine qZ ?_
  refine qZ ?_
  refine qA hR rfl (fun _ hS => Yld.pickT hS rfl rfl) ?_
  refine qM hR ?_
  refine qZ ?_
  refine qZ ?_
  refine qZ ?_
  refine qZ ?_
  refine qZ ?_
  refine qZ ?_
  refine qZ ?_
  refine qZ ?_
  refine qZ ?_
  refine qA hR rfl (fun _ hS => Yld.pickT hS rfl rfl) ?_
  intro aa hS
  refine wpList_nil ?_
  refine hK5 _ _ ?_
  refine condT hS rfl ?_
  refine wp_seq_k ?_; intro K6 hK6
  refine wp_region_lit ?_
  refine sA hS hR (Yld.build hS rfl (bld29_)) (by decide) ?_; clear hS; intro aa hS
  refine sB (Bstore hS hR rfl rfl (by rfl) info29 (by rfl) pkQ (by rfl) (Nat.le_of_ble_eq_true rfl) ?_); clear hR; intro ww hR
  revert aa
  refine qN hR ?_
  intro aa hS
  refine wpList_nil ?_
  refine hK6 _ _ ?_
  refine wp_ret ?_
  repeat first | with_reducible refine thenR ?_ | with_reducible refine blockR ?_ | with_reducible refine scopeR ?_
  refine retN (fn := Try.f37) (e := .ret) (.inl rfl) Try.results37 hS hR ⟨_, .cons (.agg rfl Try.underlying29 rfl info29 (Rds.cons (Rd.blk pkQ (by rfl)) (Rds.cons (Rd.blk pkQ (by rfl)) (Rds.nil))) (by rfl)) (.cons (.tmp rfl) (.nil)), rfl, ?_⟩
  refine ⟨?_, (hR.sub (by repeat (first | with_reducible exact Ex.refl | with_reducible apply Ex.drop)))⟩
  first | (rw [atV_none (Ar.at_out hA (by omega))]) | (rw [atV_none (Ar.at_no hA hr (by simpa using ‹_›))]) | (rw [atV_some (Ar.at_some hA hr (by simpa using ‹_›)), hrow.1])
 ·
  intro hg hS
  revert aa
  refine qMg hR ?_
  refine qMg hR ?_
  refine qAg hR rfl rfl rfl (fun _ hS => Yld.nilCheck hS rfl) ?_
  refine qAg hR rfl rfl rfl (fun _ hS => Yld.fieldAddr hS rfl 0 Try.underlying150 rfl rfl info148 (by decide)) ?_
  refine qAg hR rfl rfl rfl (fun _ hS => Yld.load1 hS rfl Try.underlying148 rfl (Rd.blk pkQ (by rfl))) ?_
  refine qAg hR rfl rfl rfl (fun _ hS => Yld.len hS rfl Try.underlying148) ?_
  refine qAg hR rfl rfl rfl (fun _ hS => Yld.geq hS rfl rfl) ?_
  refine qA hR rfl (fun _ hS => Yld.pickF hS rfl rfl) ?_
  refine qM hR ?_
  intro aa hS
  refine hS.splitB (t := 22) rfl ?_ ?_ <;> clear hS
  ·
   intro hg hS
   revert aa
   refine qZ ?_
   refine qZ ?_
   refine qZ ?_
   refine qZ ?_
   refine qZ ?_
   refine qZ ?_
   refine qZ ?_
   refine qZ ?_
   refine qZ ?_
   refine qA hR rfl (fun _ hS => Yld.pickT hS rfl rfl) ?_
   intro aa hS
   refine wpList_nil ?_
   refine hK5 _ _ ?_
   refine condT hS rfl ?_
   refine wp_seq_k ?_; intro K7 hK7
   refine wp_region_lit ?_
   refine sA hS hR (Yld.build hS rfl (bld29_)) (by decide) ?_; clear hS; intro aa hS
   refine sB (Bstore hS hR rfl rfl (by rfl) info29 (by rfl) pkQ (by rfl) (Nat.le_of_ble_eq_true rfl) ?_); clear hR; intro ww hR
   revert aa
   refine qN hR ?_
   intro aa hS
   refine wpList_nil ?_
   refine hK7 _ _ ?_
   refine wp_ret ?_
   repeat first | with_reducible refine thenR ?_ | with_reducible refine blockR ?_ | with_reducible refine scopeR ?_
   refine retN (fn := Try.f37) (e := .ret) (.inl rfl) Try.results37 hS hR ⟨_, .cons (.agg rfl Try.underlying29 rfl info29 (Rds.cons (Rd.blk pkQ (by rfl)) (Rds.cons (Rd.blk pkQ (by rfl)) (Rds.nil))) (by rfl)) (.cons (.tmp rfl) (.nil)), rfl, ?_⟩
   refine ⟨?_, (hR.sub (by repeat (first | with_reducible exact Ex.refl | with_reducible apply Ex.drop)))⟩
   first | (rw [atV_none (Ar.at_out hA (by omega))]) | (rw [atV_none (Ar.at_no hA hr (by simpa using ‹_›))]) | (rw [atV_some (Ar.at_some hA hr (by simpa using ‹_›)), hrow.1])
  ·
   intro hg hS
   obtain ⟨i, hi⟩ : ∃ i : Nat, s = i := ⟨s.toNat, by omega⟩
   subst hi
   obtain ⟨r, hr⟩ : ∃ r, rs[i]? = some r := ⟨rs[i]'(by omega), by simp⟩
   have hge : rs[i]'(by omega) = r := by simpa using (List.getElem?_eq_some_iff.1 hr).2
   have hrow := hA.row i r hr
   revert aa
   refine qMg hR ?_
   refine qAg hR rfl rfl rfl (fun _ hS => Yld.nilCheck hS rfl) ?_
   refine qAg hR rfl rfl rfl (fun _ hS => Yld.fieldAddr hS rfl 0 Try.underlying150 rfl rfl info148 (by decide)) ?_
   refine qAg hR rfl rfl rfl (fun _ hS => Yld.load1 hS rfl Try.underlying148 rfl (Rd.blk pkQ (by rfl))) ?_
   refine qMg hR ?_
   refine qAg hR rfl rfl rfl (fun _ hS => Yld.indexSlice hS rfl rfl Try.underlying148 info152 (by omega) (by omega)) ?_
   refine qAg hR rfl rfl rfl (fun _ hS => Yld.fieldAddr hS rfl 2 Try.underlying152 rfl rfl info4 (by decide)) ?_
   refine qAg hR rfl rfl rfl (fun _ hS => Yld.load1 hS rfl Try.underlying4 rfl ((Rd.flat (j := 2) (v := .bool r.2.2.1) pkQ eS_len (show i < rs.length by omega) (by rw [hge]; rfl)).at (by show 0 + i * 4 + 2 = _; omega))) ?_
   refine qAg hR rfl rfl rfl (fun _ hS => Yld.not hS rfl) ?_
   refine qA hR rfl (fun _ hS => Yld.pickF hS rfl rfl) ?_
   intro aa hS
   refine wpList_nil ?_
   refine hK5 _ _ ?_
   refine hS.splitB (t := 32) rfl ?_ ?_ <;> clear hS
   ·
    intro hg hS
    refine condT hS rfl ?_
    refine wp_seq_k ?_; intro K8 hK8
    refine wp_region_lit ?_
    refine sA hS hR (Yld.build hS rfl (bld29_)) (by decide) ?_; clear hS; intro aa hS
    refine sB (Bstore hS hR rfl rfl (by rfl) info29 (by rfl) pkQ (by rfl) (Nat.le_of_ble_eq_true rfl) ?_); clear hR; intro ww hR
    revert aa
    refine qN hR ?_
    intro aa hS
    refine wpList_nil ?_
    refine hK8 _ _ ?_
    refine wp_ret ?_
    repeat first | with_reducible refine thenR ?_ | with_reducible refine blockR ?_ | with_reducible refine scopeR ?_
    refine retN (fn := Try.f37) (e := .ret) (.inl rfl) Try.results37 hS hR ⟨_, .cons (.agg rfl Try.underlying29 rfl info29 (Rds.cons (Rd.blk pkQ (by rfl)) (Rds.cons (Rd.blk pkQ (by rfl)) (Rds.nil))) (by rfl)) (.cons (.tmp rfl) (.nil)), rfl, ?_⟩
    refine ⟨?_, (hR.sub (by repeat (first | with_reducible exact Ex.refl | with_reducible apply Ex.drop)))⟩
    first | (rw [atV_none (Ar.at_out hA (by omega))]) | (rw [atV_none (Ar.at_no hA hr (by simpa using ‹_›))]) | (rw [atV_some (Ar.at_some hA hr (by simpa using ‹_›)), hrow.1])
   ·
    intro hg hS
    refine condF hS rfl ?_
    refine wp_skip ?_
    refine hK4 _ _ ?_
    refine wp_seq_k ?_; intro K9 hK9
    refine wp_region_lit ?_
    revert aa
    refine qM hR ?_
    refine qA hR rfl (fun _ hS => Yld.nilCheck hS rfl) ?_
    refine qA hR rfl (fun _ hS => Yld.fieldAddr hS rfl 0 Try.underlying150 rfl rfl info148 (by decide)) ?_
    refine qA hR rfl (fun _ hS => Yld.load1 hS rfl Try.underlying148 rfl (Rd.blk pkQ (by rfl))) ?_
    refine qM hR ?_
    refine qA hR rfl (fun _ hS => Yld.indexSlice hS rfl rfl Try.underlying148 info152 (by omega) (by omega)) ?_
    refine qA hR rfl (fun _ hS => Yld.fieldAddr hS rfl 0 Try.underlying152 rfl rfl info29 (by decide)) ?_
    refine qA hR rfl (fun _ hS => Yld.loadAgg (vs := [.int .i64 r.1, .int .i64 r.2.1]) hS rfl Try.underlying29 rfl info29 (Rds.at (Rds.part (j := 0) (Rds.flat (rest := []) (enc := eS) (m := 4) (xs := rs) (by simpa using pkQ) eS_len (show i < rs.length by omega)) (by rw [hge]; rfl)) (by show 0 + i * 4 + 0 = _; omega)) (by rfl)) ?_
    intro aa hS
    refine sB (Bstore hS hR rfl rfl (by rfl) info29 (by rfl) pkQ (by rfl) (Nat.le_of_ble_eq_true rfl) ?_); clear hR; intro ww hR
    revert aa
    refine qN hR ?_
    intro aa hS
    refine wpList_nil ?_
    refine hK9 _ _ ?_
    refine wp_ret ?_
    repeat first | with_reducible refine thenR ?_ | with_reducible refine blockR ?_ | with_reducible refine scopeR ?_
    refine retN (fn := Try.f37) (e := .ret) (.inl rfl) Try.results37 hS hR ⟨_, .cons (.agg rfl Try.underlying29 rfl info29 (Rds.cons (Rd.blk pkQ (by rfl)) (Rds.cons (Rd.blk pkQ (by rfl)) (Rds.nil))) (by rfl)) (.cons (.tmp rfl) (.nil)), rfl, ?_⟩
    refine ⟨?_, (hR.sub (by repeat (first | with_reducible exact Ex.refl | with_reducible apply Ex.drop)))⟩
    first | (rw [atV_none (Ar.at_out hA (by omega))]) | (rw [atV_none (Ar.at_no hA hr (by simpa using ‹_›))]) | (rw [atV_some (Ar.at_some hA hr (by simpa using ‹_›)), hrow.1])
theorem Live_ok {A : Ar} {b br : Nat} {rs : List Srow} {l : List HP} {w : World} (hA : Rep A rs) {s u : Int} (hR : Sep (blk b [.slice (some ⟨br, 0, none⟩) rs.length rs.length, .int .i64 (hd A.free), .int .i64 (cnt A.tk)] 150 :: blk br (rs.flatMap eS) 152 :: l) w) : CallR Try.prog 43 [.pointer (some ⟨b, 0, none⟩), .agg [.int .i64 s, .int .i64 u].toArray] w (fun v w' => v = .bool (decide (A.at s = some u)) ∧ Sep (blk b [.slice (some ⟨br, 0, none⟩) rs.length rs.length, .int .i64 (hd A.free), .int .i64 (cnt A.tk)] 150 :: blk br (rs.flatMap eS) 152 :: l) w') := by
 refine enter Try.func43 rfl Try.ntmps43 (Nat.le_of_ble_eq_true rfl) ?_; intro aa hS
 refine wp_seq_k ?_; intro K10 hK10
 refine wp_region_lit ?_
 refine sB (Bbox hS hR rfl (by rfl) (by decide) ?_); clear hS hR; intro aa ww bb3 hS hR
 revert aa
 refine qN hR ?_
 intro aa hS
 refine wpList_nil ?_
 refine hK10 _ _ ?_
 refine wp_seq_k ?_; intro K11 hK11
 refine wp_region_lit ?_
 revert aa
 refine qM hR ?_
 refine qA hR rfl (fun _ hS => Yld.fieldAddr hS rfl 0 Try.underlying29 rfl rfl info3 (by decide)) ?_
 refine qA hR rfl (fun _ hS => Yld.load1 hS rfl Try.underlying3 rfl (Rd.blk pkQ (by rfl))) ?_
 intro aa hS
 refine sB (Bcall hS rfl Try.call37 (At_ok hA ((hR.pk (r := blk br _ 152) pkQ).pk (r := blk b _ 150) pkQ)) (by decide) ?_); clear hS; intro aa ww vv hS hp
 clear hR
 obtain ⟨rfl, hR⟩ := hp
 unfold atV at hS
 revert aa
 refine qM hR ?_
 refine qX hR ?_
 refine qX hR ?_
 intro aa hS
 refine sB (Balloc hS hR info29 (by rfl) (by rfl) (by decide) ?_); clear hS hR; intro aa ww bb5 hS hR
 refine sB (Bstore hS hR rfl rfl (by rfl) info29 (by rfl) pkQ (by rfl) (Nat.le_of_ble_eq_true rfl) ?_); clear hR; intro ww hR
 revert aa
 refine qN hR ?_
 intro aa hS
 refine wpList_nil ?_
 refine hK11 _ _ ?_
 refine wp_seq_k ?_; intro K12 hK12
 refine wp_region_lit ?_
 revert aa
 refine qM hR ?_
 refine qM hR ?_
 intro aa hS
 refine hS.splitB (t := 15) rfl ?_ ?_ <;> clear hS
 ·
  intro hg hS
  revert aa
  refine qAg hR rfl rfl rfl (fun _ hS => Yld.loadAgg hS rfl Try.underlying29 rfl info29 (Rds.cons (Rd.blk pkQ (by rfl)) (Rds.cons (Rd.blk pkQ (by rfl)) (Rds.nil))) (by rfl)) ?_
  refine qAg hR rfl rfl rfl (fun _ hS => Yld.loadAgg hS rfl Try.underlying29 rfl info29 (Rds.cons (Rd.blk pkQ (by rfl)) (Rds.cons (Rd.blk pkQ (by rfl)) (Rds.nil))) (by rfl)) ?_
  refine qAg hR rfl rfl rfl (fun _ hS => Yld.binRun hS rfl rfl (eql29 _ _ _ _ _ _)) ?_
  refine qA hR rfl (fun _ hS => Yld.pickT hS rfl rfl) ?_
  refine qN hR ?_
  intro aa hS
  refine wpList_nil ?_
  refine hK12 _ _ ?_
  refine wp_ret ?_
  repeat first | with_reducible refine thenR ?_ | with_reducible refine blockR ?_ | with_reducible refine scopeR ?_
  refine ret1 (fn := Try.f43) (e := .ret) (.inl rfl) Try.results43 hS hR ⟨_, (.tmp rfl), ?_⟩
  refine ⟨?_, (hR.sub (Ex.take pkQ (Ex.take pkQ (by repeat (first | with_reducible exact Ex.refl | with_reducible apply Ex.drop)))))⟩
  first | exact live_yes hg | exact live_no hg
 ·
  intro hg hS
  revert aa
  refine qZ ?_
  refine qZ ?_
  refine qZ ?_
  refine qA hR rfl (fun _ hS => Yld.pickF hS rfl rfl) ?_
  refine qN hR ?_
  intro aa hS
  refine wpList_nil ?_
  refine hK12 _ _ ?_
  refine wp_ret ?_
  repeat first | with_reducible refine thenR ?_ | with_reducible refine blockR ?_ | with_reducible refine scopeR ?_
  refine ret1 (fn := Try.f43) (e := .ret) (.inl rfl) Try.results43 hS hR ⟨_, (.tmp rfl), ?_⟩
  refine ⟨?_, (hR.sub (Ex.take pkQ (Ex.take pkQ (by repeat (first | with_reducible exact Ex.refl | with_reducible apply Ex.drop)))))⟩
  first | exact live_yes hg | exact live_no hg
theorem Take_ok {A : Ar} {b br : Nat} {rs : List Srow} {l : List HP} {w : World} (hA : Rep A rs) (hR : Sep (blk b [.slice (some ⟨br, 0, none⟩) rs.length rs.length, .int .i64 (hd A.free), .int .i64 (cnt A.tk)] 150 :: blk br (rs.flatMap eS) 152 :: l) w) : CallR Try.prog 49 [.pointer (some ⟨b, 0, none⟩)] w (fun v w' => v = .tuple [.agg [.int .i64 A.top.1, .int .i64 A.top.2.1].toArray, .int .i64 A.top.2.2].toArray ∧ Sep (arena 150 152 b A.take :: l) w') := by
 refine enter Try.func49 rfl Try.ntmps49 (Nat.le_of_ble_eq_true rfl) ?_; intro aa hS
 have hlen := hA.len
 have hpos := hA.ok.pos
 have hlt := hA.ok.len
 refine wp_seq_k ?_; intro K13 hK13
 refine wp_region_lit ?_
 refine sB (Balloc hS hR info29 (by rfl) (by rfl) (by decide) ?_); clear hS hR; intro aa ww bb2 hS hR
 revert aa
 refine qN hR ?_
 intro aa hS
 refine wpList_nil ?_
 refine hK13 _ _ ?_
 refine wp_seq_k ?_; intro K14 hK14
 refine wp_block ?_
 refine wp_seq_k ?_; intro K15 hK15
 refine wp_region_lit ?_
 revert aa
 refine qM hR ?_
 intro aa hS
 refine sB (Bcall hS rfl Try.call74 (some_ok (hR.pk (r := blk b _ _) pkQ) (by omega)) (by decide) ?_); clear hS; intro aa ww vv hS hp
 clear hR
 obtain ⟨rfl, hR⟩ := hp
 revert aa
 refine qA hR rfl (fun _ hS => Yld.not hS rfl) ?_
 refine qN hR ?_
 intro aa hS
 refine wpList_nil ?_
 refine hK15 _ _ ?_
 refine condF hS rfl ?_
 refine wp_seq_k ?_; intro K16 hK16
 refine wp_region_lit ?_
 revert aa
 refine qM hR ?_
 refine qA hR rfl (fun _ hS => Yld.nilCheck hS rfl) ?_
 refine qA hR rfl (fun _ hS => Yld.fieldAddr hS rfl 1 Try.underlying150 rfl rfl info3 (by decide)) ?_
 refine qA hR rfl (fun _ hS => Yld.load1 hS rfl Try.underlying3 rfl (Rd.blk pkQ (by rfl))) ?_
 refine qA hR rfl (fun _ hS => Yld.lss hS rfl rfl) ?_
 refine qN hR ?_
 intro aa hS
 refine wpList_nil ?_
 refine hK16 _ _ ?_
 refine hS.splitB (t := 10) rfl ?_ ?_ <;> clear hS
 ·
  intro hg hS
  have hf := hd_neg hg
  refine condT hS rfl ?_
  refine wp_seq_k ?_; intro K17 hK17
  refine wp_region_lit ?_
  refine sA hS hR (Yld.build hS rfl (bld29_)) (by decide) ?_; clear hS; intro aa hS
  refine sB (Bstore hS hR rfl rfl (by rfl) info29 (by rfl) pkQ (by rfl) (Nat.le_of_ble_eq_true rfl) ?_); clear hR; intro ww hR
  revert aa
  refine qN hR ?_
  intro aa hS
  refine wpList_nil ?_
  refine hK17 _ _ ?_
  refine wp_ret ?_
  repeat first | with_reducible refine thenR ?_ | with_reducible refine blockR ?_ | with_reducible refine scopeR ?_
  refine retN (fn := Try.f49) (e := .ret) (.inl rfl) Try.results49 hS hR ⟨_, .cons (.agg rfl Try.underlying29 rfl info29 (Rds.cons (Rd.blk pkQ (by rfl)) (Rds.cons (Rd.blk pkQ (by rfl)) (Rds.nil))) (by rfl)) (.cons (.tmp rfl) (.nil)), rfl, ?_⟩
  try dsimp only [lay, List.set] at hR
  first
   | exact ⟨by rw [Ar.top_nil hf], Sep.arenaI (by rw [Ar.take_nil hf]; exact hA) rfl (by rw [Ar.take_nil hf]) (by rw [Ar.take_nil hf]) (hR.sub (Ex.take pkQ (Ex.take pkQ (by repeat (first | with_reducible exact Ex.refl | with_reducible apply Ex.drop)))))⟩
   | (refine ⟨by rw [Ar.top_cons hf h2, h1], Sep.arenaI (hA.take hf hr) ?_ (hA.take_fst hf h5) (hA.take_cnt hf) (hR.sub (Ex.take pkQ (Ex.take pkQ (by repeat (first | with_reducible exact Ex.refl | with_reducible apply Ex.drop)))))⟩; rw [List.length_set])
 ·
  intro hg hS
  obtain ⟨i, fs, hf⟩ := hd_pos hg
  obtain ⟨r, hr, h1, h2, h3, h4, h5⟩ := hA.first hf
  have hhd : hd A.free = (i : Int) := by rw [hf]; rfl
  rw [hhd] at hR
  have hil := (List.getElem?_eq_some_iff.1 hr).1
  have hge : rs[i] = r := (List.getElem?_eq_some_iff.1 hr).2
  have hcb := cnt_bd A.tk
  refine condF hS rfl ?_
  refine wp_skip ?_
  refine hK14 _ _ ?_
  refine wp_seq_k ?_; intro K18 hK18
  refine drawn krQ hR Ex.refl ?_; clear hR; intro ww hR hR0
  revert aa
  refine eA 0 rfl krQ (fun _ _ _ h => h) hR0 rfl (fun _ hS => Yld.move hS rfl) ?_
  refine eA 1 rfl krQ (fun _ _ _ h => h) hR0 rfl (fun _ hS => Yld.nilCheck hS rfl) ?_
  refine eA 2 rfl krQ (fun _ _ _ h => h) hR0 rfl (fun _ hS => Yld.fieldAddr hS rfl 0 Try.underlying150 rfl rfl info148 (by decide)) ?_
  refine eA 3 rfl krQ (fun _ _ _ h => h) hR0 rfl (fun _ hS => Yld.load1 hS rfl Try.underlying148 rfl (Rd.blk pkQ (by rfl))) ?_
  refine eA 4 rfl krQ (fun _ _ _ h => h) hR0 rfl (fun _ hS => Yld.move hS rfl) ?_
  refine eA 5 rfl krQ (fun _ _ _ h => h) hR0 rfl (fun _ hS => Yld.nilCheck hS rfl) ?_
  refine eA 6 rfl krQ (fun _ _ _ h => h) hR0 rfl (fun _ hS => Yld.fieldAddr hS rfl 1 Try.underlying150 rfl rfl info3 (by decide)) ?_
  refine eA 7 rfl krQ (fun _ _ _ h => h) hR0 rfl (fun _ hS => Yld.load1 hS rfl Try.underlying3 rfl (Rd.blk pkQ (by rfl))) ?_
  refine eA 8 rfl krQ (fun _ _ _ h => h) hR0 rfl (fun _ hS => Yld.indexSlice hS rfl rfl Try.underlying148 info152 (by omega) (by omega)) ?_
  refine eA 9 rfl krQ (fun _ _ _ h => h) hR0 rfl (fun _ hS => Yld.assign hS rfl) ?_
  intro aa hS
  refine wpAnyH_done krQ ?_ _; clear hR0
  refine hK18 _ _ ?_
  refine wp_seq_k ?_; intro K19 hK19
  refine wp_region_lit ?_
  revert aa
  refine qM hR ?_
  refine qM hR ?_
  refine qM hR ?_
  refine qA hR rfl (fun _ hS => Yld.nilCheck hS rfl) ?_
  refine qA hR rfl (fun _ hS => Yld.fieldAddr hS rfl 3 Try.underlying152 rfl rfl info3 (by decide)) ?_
  refine qA hR rfl (fun _ hS => Yld.load1 hS rfl Try.underlying3 rfl ((Rd.flat (j := 3) (v := .int .i64 r.2.2.2) pkQ eS_len (by simpa using hil) (by rw [hge]; rfl)).at (by have h4 : (Try.t152).size = 4 := rfl; simp only [h4, Int.toNat_natCast]; omega))) ?_
  refine qA hR rfl (fun _ hS => Yld.nilCheck hS rfl) ?_
  refine qA hR rfl (fun _ hS => Yld.fieldAddr hS rfl 1 Try.underlying150 rfl rfl info3 (by decide)) ?_
  intro aa hS
  refine sB (Bstore hS hR rfl rfl (by rfl) info3 (by rfl) pkQ (by rfl) (Nat.le_of_ble_eq_true rfl) ?_); clear hR; intro ww hR
  revert aa
  refine qA hR rfl (fun _ hS => Yld.nilCheck hS rfl) ?_
  refine qA hR rfl (fun _ hS => Yld.fieldAddr hS rfl 2 Try.underlying152 rfl rfl info4 (by decide)) ?_
  intro aa hS
  refine sB (Bstore hS hR rfl rfl (by rfl) info4 (by rfl) pkQ (by rfl) (by have h4 : (Try.t152).size = 4 := rfl; simp only [h4, Int.toNat_natCast, List.length_singleton]; rw [flat_len eS_len]; omega) ?_); clear hR; intro ww hR
  replace hR := hR.flatSet (enc := eS) (m := 4) (k := i) (j := 2) (r.1, r.2.1, true, r.2.2.2) eS_len (by simpa using hil) (by have h4 : (Try.t152).size = 4 := rfl; simp only [h4, Int.toNat_natCast]; omega) (Nat.le_of_ble_eq_true rfl) (by rw [hge]; rfl)
  refine wpList_nil ?_
  refine hK19 _ _ ?_
  refine wp_seq_k ?_; intro K20 hK20
  refine wp_region_lit ?_
  revert aa
  refine qM hR ?_
  refine qA hR rfl (fun _ hS => Yld.nilCheck hS rfl) ?_
  refine qA hR rfl (fun _ hS => Yld.fieldAddr hS rfl 2 Try.underlying150 rfl rfl info3 (by decide)) ?_
  refine qA hR rfl (fun _ hS => Yld.load1 hS rfl Try.underlying3 rfl (Rd.blk pkQ (by rfl))) ?_
  intro aa hS
  refine sA hS hR adQ (by decide) ?_; clear hS; intro aa hS
  revert aa
  refine qA hR rfl (fun _ hS => Yld.nilCheck hS rfl) ?_
  refine qA hR rfl (fun _ hS => Yld.fieldAddr hS rfl 2 Try.underlying150 rfl rfl info3 (by decide)) ?_
  intro aa hS
  refine sB (Bstore hS hR rfl rfl (by rfl) info3 (by rfl) pkQ (by rfl) (Nat.le_of_ble_eq_true rfl) ?_); clear hR; intro ww hR
  refine wpList_nil ?_
  refine hK20 _ _ ?_
  refine wp_seq_k ?_; intro K21 hK21
  refine wp_region_lit ?_
  revert aa
  refine qM hR ?_
  refine qA hR rfl (fun _ hS => Yld.nilCheck hS rfl) ?_
  refine qA hR rfl (fun _ hS => Yld.fieldAddr hS rfl 0 Try.underlying152 rfl rfl info29 (by decide)) ?_
  refine qA hR rfl (fun _ hS => Yld.loadAgg (vs := [.int .i64 r.1, .int .i64 r.2.1]) hS rfl Try.underlying29 rfl info29 (Rds.at (Rds.part (j := 0) (Rds.flat (rest := []) (enc := eS) (m := 4) (xs := rs.set i (r.1, r.2.1, true, r.2.2.2)) (k := i) (by simpa using pkQ) eS_len (by simpa using hil)) (by rw [List.getElem_set_self]; rfl)) (by have h4 : (Try.t152).size = 4 := rfl; simp only [h4, Int.toNat_natCast]; omega)) (by rfl)) ?_
  intro aa hS
  refine sB (Bstore hS hR rfl rfl (by rfl) info29 (by rfl) pkQ (by rfl) (Nat.le_of_ble_eq_true rfl) ?_); clear hR; intro ww hR
  revert aa
  refine qN hR ?_
  intro aa hS
  refine wpList_nil ?_
  refine hK21 _ _ ?_
  refine wp_ret ?_
  repeat first | with_reducible refine thenR ?_ | with_reducible refine blockR ?_ | with_reducible refine scopeR ?_
  refine retN (fn := Try.f49) (e := .ret) (.inl rfl) Try.results49 hS hR ⟨_, .cons (.agg rfl Try.underlying29 rfl info29 (Rds.cons (Rd.blk pkQ (by rfl)) (Rds.cons (Rd.blk pkQ (by rfl)) (Rds.nil))) (by rfl)) (.cons (.tmp rfl) (.nil)), rfl, ?_⟩
  try dsimp only [lay, List.set] at hR
  first
   | exact ⟨by rw [Ar.top_nil hf], Sep.arenaI (by rw [Ar.take_nil hf]; exact hA) rfl (by rw [Ar.take_nil hf]) (by rw [Ar.take_nil hf]) (hR.sub (Ex.take pkQ (Ex.take pkQ (by repeat (first | with_reducible exact Ex.refl | with_reducible apply Ex.drop)))))⟩
   | (refine ⟨by rw [Ar.top_cons hf h2, h1], Sep.arenaI (hA.take hf hr) ?_ (hA.take_fst hf h5) (hA.take_cnt hf) (hR.sub (Ex.take pkQ (Ex.take pkQ (by repeat (first | with_reducible exact Ex.refl | with_reducible apply Ex.drop)))))⟩; rw [List.length_set])
theorem Give_ok {A : Ar} {b br : Nat} {rs : List Srow} {l : List HP} {w : World} (hA : Rep A rs) {s u : Int} (hR : Sep (blk b [.slice (some ⟨br, 0, none⟩) rs.length rs.length, .int .i64 (hd A.free), .int .i64 (cnt A.tk)] 150 :: blk br (rs.flatMap eS) 152 :: l) w) : CallR Try.prog 53 [.pointer (some ⟨b, 0, none⟩), .agg [.int .i64 s, .int .i64 u].toArray] w (fun v w' => v = .int .i64 (A.giveE s u) ∧ Sep (arena 150 152 b (A.giveH s u) :: l) w') := by
 refine enter Try.func53 rfl Try.ntmps53 (Nat.le_of_ble_eq_true rfl) ?_; intro aa hS
 have hlen := hA.len
 have hpos := hA.ok.pos
 have hlt := hA.ok.len
 refine wp_seq_k ?_; intro K22 hK22
 refine wp_region_lit ?_
 refine sB (Bbox hS hR rfl (by rfl) (by decide) ?_); clear hS hR; intro aa ww bb3 hS hR
 revert aa
 refine qN hR ?_
 intro aa hS
 refine wpList_nil ?_
 refine hK22 _ _ ?_
 refine wp_seq_k ?_; intro K23 hK23
 refine wp_block ?_
 refine wp_seq_k ?_; intro K24 hK24
 refine wp_region_lit ?_
 revert aa
 refine qM hR ?_
 intro aa hS
 refine sB (Bcall hS rfl Try.call74 (some_ok (hR.pk (r := blk b _ _) pkQ) (by omega)) (by decide) ?_); clear hS; intro aa ww vv hS hp
 clear hR
 obtain ⟨rfl, hR⟩ := hp
 revert aa
 refine qA hR rfl (fun _ hS => Yld.not hS rfl) ?_
 refine qN hR ?_
 intro aa hS
 refine wpList_nil ?_
 refine hK24 _ _ ?_
 refine condF hS rfl ?_
 refine wp_seq_k ?_; intro K25 hK25
 refine wp_region_lit ?_
 revert aa
 refine qM hR ?_
 refine qA hR rfl (fun _ hS => Yld.loadAgg hS rfl Try.underlying29 rfl info29 (Rds.cons (Rd.blk pkQ (by rfl)) (Rds.cons (Rd.blk pkQ (by rfl)) (Rds.nil))) (by rfl)) ?_
 intro aa hS
 refine sB (Bcall hS rfl Try.call43 (Live_ok hA ((hR.pk (r := blk br _ 152) pkQ).pk (r := blk b _ 150) pkQ)) (by decide) ?_); clear hS; intro aa ww vv hS hp
 clear hR
 obtain ⟨rfl, hR⟩ := hp
 revert aa
 refine qA hR rfl (fun _ hS => Yld.not hS rfl) ?_
 refine qN hR ?_
 intro aa hS
 refine wpList_nil ?_
 refine hK25 _ _ ?_
 refine hS.splitB (t := 10) rfl ?_ ?_ <;> clear hS
 ·
  intro hg hS
  refine condT hS rfl ?_
  refine wp_seq_k ?_; intro K26 hK26
  refine wp_region_lit ?_
  revert aa
  refine qN hR ?_
  intro aa hS
  refine wpList_nil ?_
  refine hK26 _ _ ?_
  refine wp_ret ?_
  repeat first | with_reducible refine thenR ?_ | with_reducible refine blockR ?_ | with_reducible refine scopeR ?_
  refine ret1 (fn := Try.f53) (e := .ret) (.inl rfl) Try.results53 hS hR ⟨_, (.tmp rfl), ?_⟩
  try dsimp only [lay, List.set] at hR
  first
   | exact ⟨by simp [Ar.giveE, hg], Sep.arenaI (by rw [Ar.giveH_no hg]; exact hA) rfl (by rw [Ar.giveH_no hg]) (by rw [Ar.giveH_no hg]) (hR.sub (Ex.take pkQ (Ex.take pkQ (by repeat (first | with_reducible exact Ex.refl | with_reducible apply Ex.drop)))))⟩
   | (refine ⟨by simp [Ar.giveE, hg], Sep.arenaI (br := br) (n := rs.length) (f := (i : Int)) (c := cnt A.tk - 1) (rs := rs.set i (r.1, IntKind.i64.wrap (r.2.1 + 1), false, hd A.free)) (by rw [Ar.giveH_yes hg]; exact hA.give h4 hr) ?_ (by rw [Ar.giveH_yes hg]; rfl) (by rw [Ar.giveH_yes hg]; exact hgi) (hR.sub (Ex.take pkQ (Ex.take pkQ (by repeat (first | with_reducible exact Ex.refl | with_reducible apply Ex.drop)))))⟩; rw [List.length_set])
 ·
  intro hg hS
  obtain ⟨i, r, rfl, hr, h1, h2, h3, h4⟩ := hA.at_inv hg
  have hil := (List.getElem?_eq_some_iff.1 hr).1
  have hge : rs[i] = r := (List.getElem?_eq_some_iff.1 hr).2
  have hcb := cnt_bd A.tk
  have hgi := Rep.give_cnt (A := A) h4
  refine condF hS rfl ?_
  refine wp_skip ?_
  refine hK23 _ _ ?_
  refine wp_seq_k ?_; intro K27 hK27
  refine drawn krQ hR Ex.refl ?_; clear hR; intro ww hR hR0
  revert aa
  refine eA 0 rfl krQ (fun _ _ _ h => h) hR0 rfl (fun _ hS => Yld.move hS rfl) ?_
  refine eA 1 rfl krQ (fun _ _ _ h => h) hR0 rfl (fun _ hS => Yld.nilCheck hS rfl) ?_
  refine eA 2 rfl krQ (fun _ _ _ h => h) hR0 rfl (fun _ hS => Yld.fieldAddr hS rfl 0 Try.underlying150 rfl rfl info148 (by decide)) ?_
  refine eA 3 rfl krQ (fun _ _ _ h => h) hR0 rfl (fun _ hS => Yld.load1 hS rfl Try.underlying148 rfl (Rd.blk pkQ (by rfl))) ?_
  refine eA 4 rfl krQ (fun _ _ _ h => h) hR0 rfl (fun _ hS => Yld.fieldAddr hS rfl 0 Try.underlying29 rfl rfl info3 (by decide)) ?_
  refine eA 5 rfl krQ (fun _ _ _ h => h) hR0 rfl (fun _ hS => Yld.load1 hS rfl Try.underlying3 rfl (Rd.blk pkQ (by rfl))) ?_
  refine eA 6 rfl krQ (fun _ _ _ h => h) hR0 rfl (fun _ hS => Yld.indexSlice hS rfl rfl Try.underlying148 info152 (by omega) (by omega)) ?_
  refine eA 7 rfl krQ (fun _ _ _ h => h) hR0 rfl (fun _ hS => Yld.assign hS rfl) ?_
  intro aa hS
  refine wpAnyH_done krQ ?_ _; clear hR0
  refine hK27 _ _ ?_
  refine wp_seq_k ?_; intro K28 hK28
  refine wp_region_lit ?_
  revert aa
  refine qM hR ?_
  refine qM hR ?_
  refine qM hR ?_
  refine qA hR rfl (fun _ hS => Yld.nilCheck hS rfl) ?_
  refine qA hR rfl (fun _ hS => Yld.fieldAddr hS rfl 1 Try.underlying150 rfl rfl info3 (by decide)) ?_
  refine qA hR rfl (fun _ hS => Yld.load1 hS rfl Try.underlying3 rfl (Rd.blk pkQ (by rfl))) ?_
  refine qA hR rfl (fun _ hS => Yld.nilCheck hS rfl) ?_
  refine qA hR rfl (fun _ hS => Yld.fieldAddr hS rfl 2 Try.underlying152 rfl rfl info4 (by decide)) ?_
  intro aa hS
  refine sB (Bstore hS hR rfl rfl (by rfl) info4 (by rfl) pkQ (by rfl) (by have h4 : (Try.t152).size = 4 := rfl; simp only [h4, Int.toNat_natCast, List.length_singleton]; rw [flat_len eS_len]; omega) ?_); clear hR; intro ww hR
  replace hR := hR.flatSet (enc := eS) (m := 4) (k := i) (j := 2) (r.1, r.2.1, false, r.2.2.2) eS_len (by simpa using hil) (by have h4 : (Try.t152).size = 4 := rfl; simp only [h4, Int.toNat_natCast]; omega) (Nat.le_of_ble_eq_true rfl) (by rw [hge]; rfl)
  revert aa
  refine qA hR rfl (fun _ hS => Yld.nilCheck hS rfl) ?_
  refine qA hR rfl (fun _ hS => Yld.fieldAddr hS rfl 3 Try.underlying152 rfl rfl info3 (by decide)) ?_
  intro aa hS
  refine sB (Bstore hS hR rfl rfl (by rfl) info3 (by rfl) pkQ (by rfl) (by have h4 : (Try.t152).size = 4 := rfl; simp only [h4, Int.toNat_natCast, List.length_singleton]; rw [flat_len eS_len, List.length_set]; omega) ?_); clear hR; intro ww hR
  replace hR := hR.flatSet (enc := eS) (m := 4) (k := i) (j := 3) (r.1, r.2.1, false, hd A.free) eS_len (by simpa using hil) (by have h4 : (Try.t152).size = 4 := rfl; simp only [h4, Int.toNat_natCast]; omega) (Nat.le_of_ble_eq_true rfl) (by rw [List.getElem_set_self]; rfl)
  rw [List.set_set] at hR
  refine wpList_nil ?_
  refine hK28 _ _ ?_
  refine wp_seq_k ?_; intro K29 hK29
  refine wp_region_lit ?_
  revert aa
  refine qM hR ?_
  refine qA hR rfl (fun _ hS => Yld.nilCheck hS rfl) ?_
  refine qA hR rfl (fun _ hS => Yld.fieldAddr hS rfl 0 Try.underlying152 rfl rfl info29 (by decide)) ?_
  refine qA hR rfl (fun _ hS => Yld.fieldAddr hS rfl 1 Try.underlying29 rfl rfl info3 (by decide)) ?_
  refine qA hR rfl (fun _ hS => Yld.load1 hS rfl Try.underlying3 rfl ((Rd.flat (j := 1) (v := .int .i64 r.2.1) pkQ eS_len (by simpa using hil) (by rw [List.getElem_set_self]; rfl)).at (by have h4 : (Try.t152).size = 4 := rfl; simp only [h4, Int.toNat_natCast]; omega))) ?_
  refine qA hR rfl (fun _ hS => Yld.add hS rfl rfl) ?_
  refine qA hR rfl (fun _ hS => Yld.nilCheck hS rfl) ?_
  refine qA hR rfl (fun _ hS => Yld.fieldAddr hS rfl 0 Try.underlying152 rfl rfl info29 (by decide)) ?_
  refine qA hR rfl (fun _ hS => Yld.fieldAddr hS rfl 1 Try.underlying29 rfl rfl info3 (by decide)) ?_
  intro aa hS
  refine sB (Bstore hS hR rfl rfl (by rfl) info3 (by rfl) pkQ (by rfl) (by have h4 : (Try.t152).size = 4 := rfl; simp only [h4, Int.toNat_natCast, List.length_singleton]; rw [flat_len eS_len, List.length_set]; omega) ?_); clear hR; intro ww hR
  replace hR := hR.flatSet (enc := eS) (m := 4) (k := i) (j := 1) (r.1, IntKind.i64.wrap (r.2.1 + 1), false, hd A.free) eS_len (by simpa using hil) (by have h4 : (Try.t152).size = 4 := rfl; simp only [h4, Int.toNat_natCast]; omega) (Nat.le_of_ble_eq_true rfl) (by rw [List.getElem_set_self]; rfl)
  rw [List.set_set] at hR
  refine wpList_nil ?_
  refine hK29 _ _ ?_
  refine wp_seq_k ?_; intro K30 hK30
  refine wp_region_lit ?_
  revert aa
  refine qM hR ?_
  refine qA hR rfl (fun _ hS => Yld.fieldAddr hS rfl 0 Try.underlying29 rfl rfl info3 (by decide)) ?_
  refine qA hR rfl (fun _ hS => Yld.load1 hS rfl Try.underlying3 rfl (Rd.blk pkQ (by rfl))) ?_
  refine qA hR rfl (fun _ hS => Yld.nilCheck hS rfl) ?_
  refine qA hR rfl (fun _ hS => Yld.fieldAddr hS rfl 1 Try.underlying150 rfl rfl info3 (by decide)) ?_
  intro aa hS
  refine sB (Bstore hS hR rfl rfl (by rfl) info3 (by rfl) pkQ (by rfl) (Nat.le_of_ble_eq_true rfl) ?_); clear hR; intro ww hR
  refine wpList_nil ?_
  refine hK30 _ _ ?_
  refine wp_seq_k ?_; intro K31 hK31
  refine wp_region_lit ?_
  revert aa
  refine qM hR ?_
  refine qA hR rfl (fun _ hS => Yld.nilCheck hS rfl) ?_
  refine qA hR rfl (fun _ hS => Yld.fieldAddr hS rfl 2 Try.underlying150 rfl rfl info3 (by decide)) ?_
  refine qA hR rfl (fun _ hS => Yld.load1 hS rfl Try.underlying3 rfl (Rd.blk pkQ (by rfl))) ?_
  intro aa hS
  refine sA hS hR suQ (by decide) ?_; clear hS; intro aa hS
  revert aa
  refine qA hR rfl (fun _ hS => Yld.nilCheck hS rfl) ?_
  refine qA hR rfl (fun _ hS => Yld.fieldAddr hS rfl 2 Try.underlying150 rfl rfl info3 (by decide)) ?_
  intro aa hS
  refine sB (Bstore hS hR rfl rfl (by rfl) info3 (by rfl) pkQ (by rfl) (Nat.le_of_ble_eq_true rfl) ?_); clear hR; intro ww hR
  refine wpList_nil ?_
  refine hK31 _ _ ?_
  refine wp_seq_k ?_; intro K32 hK32
  refine wp_region_lit ?_
  revert aa
  refine qN hR ?_
  intro aa hS
  refine wpList_nil ?_
  refine hK32 _ _ ?_
  refine wp_ret ?_
  repeat first | with_reducible refine thenR ?_ | with_reducible refine blockR ?_ | with_reducible refine scopeR ?_
  refine ret1 (fn := Try.f53) (e := .ret) (.inl rfl) Try.results53 hS hR ⟨_, (.tmp rfl), ?_⟩
  try dsimp only [lay, List.set] at hR
  first
   | exact ⟨by simp [Ar.giveE, hg], Sep.arenaI (by rw [Ar.giveH_no hg]; exact hA) rfl (by rw [Ar.giveH_no hg]) (by rw [Ar.giveH_no hg]) (hR.sub (Ex.take pkQ (Ex.take pkQ (by repeat (first | with_reducible exact Ex.refl | with_reducible apply Ex.drop)))))⟩
   | (refine ⟨by simp [Ar.giveE, hg], Sep.arenaI (br := br) (n := rs.length) (f := (i : Int)) (c := cnt A.tk - 1) (rs := rs.set i (r.1, IntKind.i64.wrap (r.2.1 + 1), false, hd A.free)) (by rw [Ar.giveH_yes hg]; exact hA.give h4 hr) ?_ (by rw [Ar.giveH_yes hg]; rfl) (by rw [Ar.giveH_yes hg]; exact hgi) (hR.sub (Ex.take pkQ (Ex.take pkQ (by repeat (first | with_reducible exact Ex.refl | with_reducible apply Ex.drop)))))⟩; rw [List.length_set])
theorem Count_ok {A : Ar} {b br : Nat} {rs : List Srow} {l : List HP} {w : World} (hA : Rep A rs) (hR : Sep (blk b [.slice (some ⟨br, 0, none⟩) rs.length rs.length, .int .i64 (hd A.free), .int .i64 (cnt A.tk)] 150 :: blk br (rs.flatMap eS) 152 :: l) w) : CallR Try.prog 51 [.pointer (some ⟨b, 0, none⟩)] w (fun v w' => v = .int .i64 (cnt A.tk) ∧ Sep (blk b [.slice (some ⟨br, 0, none⟩) rs.length rs.length, .int .i64 (hd A.free), .int .i64 (cnt A.tk)] 150 :: blk br (rs.flatMap eS) 152 :: l) w') := by
 refine enter Try.func51 rfl Try.ntmps51 (Nat.le_of_ble_eq_true rfl) ?_; intro aa hS
 have hlen := hA.len
 have hpos := hA.ok.pos
 have hlt := hA.ok.len
 refine wp_seq_k ?_; intro K33 hK33
 refine wp_region_lit ?_
 revert aa
 refine qN hR ?_
 intro aa hS
 refine wpList_nil ?_
 refine hK33 _ _ ?_
 refine wp_seq_k ?_; intro K34 hK34
 refine wp_seq_k ?_; intro K35 hK35
 refine wp_region_lit ?_
 revert aa
 refine qM hR ?_
 intro aa hS
 refine sB (Bcall hS rfl Try.call74 (some_ok (hR.pk (r := blk b _ _) pkQ) (by omega)) (by decide) ?_); clear hS; intro aa ww vv hS hp
 clear hR
 obtain ⟨rfl, hR⟩ := hp
 refine sA hS hR (Yld.not hS rfl) (by decide) ?_; clear hS; intro aa hS
 refine wpList_nil ?_
 refine hK35 _ _ ?_
 refine condF hS rfl ?_
 refine wp_skip ?_
 refine hK34 _ _ ?_
 refine wp_seq_k ?_; intro K36 hK36
 refine wp_region_lit ?_
 revert aa
 refine qM hR ?_
 refine qA hR rfl (fun _ hS => Yld.nilCheck hS rfl) ?_
 refine qA hR rfl (fun _ hS => Yld.fieldAddr hS rfl 2 Try.underlying150 rfl rfl info3 (by decide)) ?_
 refine qA hR rfl (fun _ hS => Yld.load1 hS rfl Try.underlying3 rfl (Rd.blk pkQ (by rfl))) ?_
 refine qN hR ?_
 intro aa hS
 refine wpList_nil ?_
 refine hK36 _ _ ?_
 refine wp_ret ?_
 repeat first | with_reducible refine thenR ?_ | with_reducible refine blockR ?_ | with_reducible refine scopeR ?_
 refine ret1 (fn := Try.f51) (e := .ret) (.inl rfl) Try.results51 hS hR ⟨_, (.tmp rfl), ?_⟩
 exact ⟨rfl, hR.sub (Ex.take pkQ (Ex.take pkQ (by repeat (first | with_reducible exact Ex.refl | with_reducible apply Ex.drop))))⟩
theorem Size_ok {A : Ar} {b br : Nat} {rs : List Srow} {l : List HP} {w : World} (hA : Rep A rs) (hR : Sep (blk b [.slice (some ⟨br, 0, none⟩) rs.length rs.length, .int .i64 (hd A.free), .int .i64 (cnt A.tk)] 150 :: blk br (rs.flatMap eS) 152 :: l) w) : CallR Try.prog 52 [.pointer (some ⟨b, 0, none⟩)] w (fun v w' => v = .int .i64 rs.length ∧ Sep (blk b [.slice (some ⟨br, 0, none⟩) rs.length rs.length, .int .i64 (hd A.free), .int .i64 (cnt A.tk)] 150 :: blk br (rs.flatMap eS) 152 :: l) w') := by
 refine enter Try.func52 rfl Try.ntmps52 (Nat.le_of_ble_eq_true rfl) ?_; intro aa hS
 have hlen := hA.len
 have hpos := hA.ok.pos
 have hlt := hA.ok.len
 refine wp_seq_k ?_; intro K37 hK37
 refine wp_region_lit ?_
 revert aa
 refine qN hR ?_
 intro aa hS
 refine wpList_nil ?_
 refine hK37 _ _ ?_
 refine wp_seq_k ?_; intro K38 hK38
 refine wp_seq_k ?_; intro K39 hK39
 refine wp_region_lit ?_
 revert aa
 refine qM hR ?_
 intro aa hS
 refine sB (Bcall hS rfl Try.call74 (some_ok (hR.pk (r := blk b _ _) pkQ) (by omega)) (by decide) ?_); clear hS; intro aa ww vv hS hp
 clear hR
 obtain ⟨rfl, hR⟩ := hp
 refine sA hS hR (Yld.not hS rfl) (by decide) ?_; clear hS; intro aa hS
 refine wpList_nil ?_
 refine hK39 _ _ ?_
 refine condF hS rfl ?_
 refine wp_skip ?_
 refine hK38 _ _ ?_
 refine wp_seq_k ?_; intro K40 hK40
 refine wp_region_lit ?_
 revert aa
 refine qM hR ?_
 refine qA hR rfl (fun _ hS => Yld.nilCheck hS rfl) ?_
 refine qA hR rfl (fun _ hS => Yld.fieldAddr hS rfl 0 Try.underlying150 rfl rfl info148 (by decide)) ?_
 refine qA hR rfl (fun _ hS => Yld.load1 hS rfl Try.underlying148 rfl (Rd.blk pkQ (by rfl))) ?_
 refine qA hR rfl (fun _ hS => Yld.len hS rfl Try.underlying148) ?_
 refine qN hR ?_
 intro aa hS
 refine wpList_nil ?_
 refine hK40 _ _ ?_
 refine wp_ret ?_
 repeat first | with_reducible refine thenR ?_ | with_reducible refine blockR ?_ | with_reducible refine scopeR ?_
 refine ret1 (fn := Try.f52) (e := .ret) (.inl rfl) Try.results52 hS hR ⟨_, (.tmp rfl), ?_⟩
 exact ⟨rfl, hR.sub (Ex.take pkQ (Ex.take pkQ (by repeat (first | with_reducible exact Ex.refl | with_reducible apply Ex.drop))))⟩
set_option maxHeartbeats 1000000 in
theorem New_ok {n : Int} {l : List HP} {w : World} (hR : Sep l w) (hn : 1 ≤ n ∧ n ≤ 4096) : CallR Try.prog 46 [.int .i64 n] w (fun v w' => ∃ b, v = .tuple [.pointer (some ⟨b, 0, none⟩), .int .i64 0].toArray ∧ Sep (arena 150 152 b (Ar.new n.toNat) :: l) w') := by
 refine enter Try.func46 rfl Try.ntmps46 (Nat.le_of_ble_eq_true rfl) ?_; intro aa hS
 obtain ⟨m, hm⟩ : ∃ m : Nat, n = m := ⟨n.toNat, by omega⟩
 subst hm
 refine wp_seq_k ?_; intro K46 hK46
 refine wp_region_lit ?_
 revert aa
 refine qN hR ?_
 refine qN hR ?_
 intro aa hS
 refine wpList_nil ?_
 refine hK46 _ _ ?_
 refine wp_seq_k ?_; intro K47 hK47
 refine wp_seq_k ?_; intro K48 hK48
 refine wp_region_lit ?_
 revert aa
 refine qM hR ?_
 refine qA hR rfl (fun _ hS => Yld.lss hS rfl rfl) ?_
 refine qB (t := 7) false rfl (by exact decide_eq_false (by omega)) ?_
 refine qM hR ?_
 refine qMg hR ?_
 refine qAg hR rfl rfl rfl (fun _ hS => Yld.gtr hS rfl rfl) ?_
 refine qB (t := 10) false rfl (by exact decide_eq_false (by omega)) ?_
 refine qA hR rfl (fun _ hS => Yld.pickF hS rfl rfl) ?_
 intro aa hS
 refine wpList_nil ?_
 refine hK48 _ _ ?_
 refine condF hS rfl ?_
 refine wp_skip ?_
 refine hK47 _ _ ?_
 refine wp_seq_k ?_; intro K49 hK49
 refine wp_region_lit ?_
 revert aa
 refine qM hR ?_
 intro aa hS
 refine sB (Bmake (zc := [.int .i64 0, .int .i64 0, .bool false, .int .i64 0]) hS hR rfl rfl Try.underlying148 info152 rfl (by rfl) (by rfl) (by decide) (by omega) (by show ((32 : Nat) : Int) * _ ≤ _; omega) (by omega) (by decide) ?_); clear hS hR; intro aa ww bb13 hS hR
 rw [Int.toNat_natCast] at hS hR
 rw [zeros_flat (zc := [.int .i64 0, .int .i64 0, .bool false, .int .i64 0]) (enc := eS) ((0, 0, false, 0) : Srow) m rfl] at hR
 refine sA hS hR (Yld.build hS rfl (bld150_0 _ _ _)) (by decide) ?_; clear hS; intro aa hS
 refine sB (Bbox hS hR rfl (by rfl) (by decide) ?_); clear hS hR; intro aa ww bb15 hS hR
 revert aa
 refine qN hR ?_
 intro aa hS
 refine wpList_nil ?_
 refine hK49 _ _ ?_
 refine wp_seq_k ?_; intro K50 hK50
 refine wp_seq_k ?_; intro K51 hK51
 refine wp_region_lit ?_
 revert aa
 refine qM hR ?_
 refine qA hR rfl (fun _ hS => Yld.nilCheck hS rfl) ?_
 refine qA hR rfl (fun _ hS => Yld.fieldAddr hS rfl 0 Try.underlying150 rfl rfl info148 (by decide)) ?_
 refine qA hR rfl (fun _ hS => Yld.load1 hS rfl Try.underlying148 rfl (Rd.blk pkQ (by rfl))) ?_
 refine qA hR rfl (fun _ hS => Yld.len hS rfl Try.underlying148) ?_
 refine qM hR ?_
 intro aa hS
 refine wpList_nil ?_
 refine hK51 _ _ ?_
 refine wp_block ?_
 replace hR := hR.pk (r := blk bb13 ((List.replicate m ((0, 0, false, 0) : Srow)).flatMap eS) 152) pkQ
 refine loopI (X := Nat × List Srow) (without [5, 21, 22, 23, 24, 25, 26, 27, 28, 29, 30, 31, 32, 33, 34, 35, 36, 37, 38, 39, 40, 41, 42] _) (fun x => [(21, .int .i64 (x.1 : Int))]) (fun x => [blk bb13 (x.2.flatMap eS) 152]) _ (fun x => NewI m x.1 x.2) (fun x => m - x.1) (0, List.replicate m (0, 0, false, 0)) (NewI.zero m) (hS.le (by refine (Le.cons rfl (Le.nilapp (Le.without _ _))))) hR ?_
 clear hS hR; rintro ⟨k, rs⟩ aa ww hI hS hR; dsimp only [List.cons_append, List.nil_append] at hI hS hR
 have hk1 := hI.1
 have hk2 := hI.2.1
 refine wp_seq_k ?_; intro K53 hK53
 refine wp_region_lit ?_
 refine sA hS hR (Yld.lss hS rfl rfl) (by decide) ?_; clear hS; intro aa hS
 refine wpList_nil ?_
 refine hK53 _ _ ?_
 refine wp_seq_k ?_; intro K54 hK54
 refine hS.splitB (t := 22) rfl ?_ ?_ <;> clear hS
 ·
  intro hg hS
  have hil : k < rs.length := by omega
  have hge : rs[k] = (0, 0, false, 0) := by rw [hI.get hil, if_neg (by omega)]
  refine condT hS rfl ?_
  refine wp_skip ?_
  refine hK54 _ _ ?_
  refine wp_seq_k ?_; intro K55 hK55
  refine wp_block ?_
  refine wp_seq_k ?_; intro K56 hK56
  refine wp_region_lit ?_
  revert aa
  refine qM hR ?_
  refine qN hR ?_
  intro aa hS
  refine wpList_nil ?_
  refine hK56 _ _ ?_
  refine drawn krQ hR (Ex.of_pk (r := blk bb13 _ _) pkQ) ?_; clear hR; intro ww hR hR0
  revert aa
  refine eA 0 rfl krQ (fun _ _ _ h => h) hR0 rfl (fun _ hS => Yld.move hS rfl) ?_
  refine eA 1 rfl krQ (fun _ _ _ h => h) hR0 rfl (fun _ hS => Yld.nilCheck hS rfl) ?_
  refine eA 2 rfl krQ (fun _ _ _ h => h) hR0 rfl (fun _ hS => Yld.fieldAddr hS rfl 0 Try.underlying150 rfl rfl info148 (by decide)) ?_
  refine eA 3 rfl krQ (fun _ _ _ h => h) hR0 rfl (fun _ hS => Yld.load1 hS rfl Try.underlying148 rfl (Rd.blk pkQ (by rfl))) ?_
  refine eA 4 rfl krQ (fun _ _ _ h => h) hR0 rfl (fun _ hS => Yld.move hS rfl) ?_
  refine eA 5 rfl krQ (fun _ _ _ h => h) hR0 rfl (fun _ hS => Yld.move hS rfl) ?_
  refine eA 6 rfl krQ (fun _ _ _ h => h) hR0 rfl (fun _ hS => Yld.nilCheck hS rfl) ?_
  refine eA 7 rfl krQ (fun _ _ _ h => h) hR0 rfl (fun _ hS => Yld.fieldAddr hS rfl 0 Try.underlying150 rfl rfl info148 (by decide)) ?_
  refine eA 8 rfl krQ (fun _ _ _ h => h) hR0 rfl (fun _ hS => Yld.load1 hS rfl Try.underlying148 rfl (Rd.blk pkQ (by rfl))) ?_
  refine eA 9 rfl krQ (fun _ _ _ h => h) hR0 rfl (fun _ hS => Yld.move hS rfl) ?_
  refine eA 10 rfl krQ (fun _ _ _ h => h) hR0 rfl (fun _ hS => Yld.move hS rfl) ?_
  refine eA 11 rfl krQ (fun _ _ _ h => h) hR0 rfl (fun _ hS => Yld.move hS rfl) ?_
  intro aa hS
  refine dA 12 rfl krQ krQ krQ (fun _ _ _ h => h) hS hR0 adQ (by decide) ?_; clear hS; intro aa hS
  revert aa
  refine eA 13 rfl krQ (fun _ _ _ h => h) hR0 rfl (fun _ hS => Yld.indexSlice hS rfl rfl Try.underlying148 info152 (by omega) (by omega)) ?_
  refine eA 14 rfl krQ (fun _ _ _ h => h) hR0 rfl (fun _ hS => Yld.fieldAddr hS rfl 0 Try.underlying152 rfl rfl info29 (by decide)) ?_
  refine eA 15 rfl krQ (fun _ _ _ h => h) hR0 rfl (fun _ hS => Yld.fieldAddr hS rfl 0 Try.underlying29 rfl rfl info3 (by decide)) ?_
  intro aa hS
  refine dOne (i := 16) krQ ?_
  refine dop rfl (Bstore hS hR rfl rfl (by rfl) info3 (by rfl) pkQ (by rfl) (by have h4 : (Try.t152).size = 4 := rfl; simp only [h4, Int.toNat_natCast, List.length_singleton]; rw [flat_len eS_len]; (try rw [List.length_set]); omega) ?_); clear hR hR0; intro ww hR
  first
   | replace hR := hR.flatSet (enc := eS) (m := 4) (k := k) (j := 0) ((k : Int), 0, false, 0) eS_len (by simpa using hil) (by have h4 : (Try.t152).size = 4 := rfl; simp only [h4, Int.toNat_natCast]; omega) (Nat.le_of_ble_eq_true rfl) (by rw [hge]; rfl)
   | (replace hR := hR.flatSet (enc := eS) (m := 4) (k := k) (j := 0) ((k : Int), 0, false, (k : Int) + 1) eS_len (by simpa using hil) (by have h4 : (Try.t152).size = 4 := rfl; simp only [h4, Int.toNat_natCast]; omega) (Nat.le_of_ble_eq_true rfl) (by rw [List.getElem_set_self]; rfl); rw [List.set_set] at hR)
  refine dnext (hR.sub (by repeat (first | with_reducible exact Ex.refl | with_reducible apply Ex.drop))) ?_; intro hR0
  revert aa
  refine eA 17 rfl krQ (fun _ _ _ h => h) hR0 rfl (fun _ hS => Yld.indexSlice hS rfl rfl Try.underlying148 info152 (by omega) (by omega)) ?_
  refine eA 18 rfl krQ (fun _ _ _ h => h) hR0 rfl (fun _ hS => Yld.fieldAddr hS rfl 3 Try.underlying152 rfl rfl info3 (by decide)) ?_
  intro aa hS
  refine dOne (i := 19) krQ ?_
  refine dop rfl (Bstore hS hR rfl rfl (by rfl) info3 (by rfl) pkQ (by rfl) (by have h4 : (Try.t152).size = 4 := rfl; simp only [h4, Int.toNat_natCast, List.length_singleton]; rw [flat_len eS_len]; (try rw [List.length_set]); omega) ?_); clear hR hR0; intro ww hR
  first
   | replace hR := hR.flatSet (enc := eS) (m := 4) (k := k) (j := 3) (0, 0, false, (k : Int) + 1) eS_len (by simpa using hil) (by have h4 : (Try.t152).size = 4 := rfl; simp only [h4, Int.toNat_natCast]; omega) (Nat.le_of_ble_eq_true rfl) (by rw [hge]; rfl)
   | (replace hR := hR.flatSet (enc := eS) (m := 4) (k := k) (j := 3) ((k : Int), 0, false, (k : Int) + 1) eS_len (by simpa using hil) (by have h4 : (Try.t152).size = 4 := rfl; simp only [h4, Int.toNat_natCast]; omega) (Nat.le_of_ble_eq_true rfl) (by rw [List.getElem_set_self]; rfl); rw [List.set_set] at hR)
  refine dnext (hR.sub (by repeat (first | with_reducible exact Ex.refl | with_reducible apply Ex.drop))) ?_; intro hR0
  refine wpAnyH_done krQ ?_ _; clear hR0
  refine hK55 _ _ ?_
  refine wp_region_lit ?_
  refine sA hS hR adQ (by decide) ?_; clear hS; intro aa hS
  revert aa
  refine qM hR ?_
  intro aa hS
  refine wpList_nil ?_
  refine ⟨(k + 1, rs.set k ((k : Int), 0, false, (k : Int) + 1)), ?_, ?_, hS.le (Le.cons rfl (Le.nilapp (by repeat (first | with_reducible exact Le.refl _ | refine Le.skip (lk_without rfl) ?_ | refine Le_inner rfl ?_)))), hR.sub (Ex.take pkQ (Ex.nilapp exQ))⟩
  ·
   exact hI.step (by omega)
  ·
   dsimp only; omega
 ·
  intro hg hS
  obtain rfl : m = k := by omega
  refine condF hS rfl ?_
  refine wp_exit ?_
  refine hK50 _ _ ?_
  refine wp_seq_k ?_; intro K57 hK57
  refine wp_region_lit ?_
  revert aa
  refine qM hR ?_
  refine qA hR rfl (fun _ hS => Yld.nilCheck hS rfl) ?_
  refine qA hR rfl (fun _ hS => Yld.fieldAddr hS rfl 0 Try.underlying150 rfl rfl info148 (by decide)) ?_
  refine qA hR rfl (fun _ hS => Yld.load1 hS rfl Try.underlying148 rfl (Rd.blk pkQ (by rfl))) ?_
  refine qM hR ?_
  intro aa hS
  refine sA hS hR suQ (by decide) ?_; clear hS; intro aa hS
  revert aa
  refine qA hR rfl (fun _ hS => Yld.indexSlice hS rfl rfl Try.underlying148 info152 (by omega) (by omega)) ?_
  refine qA hR rfl (fun _ hS => Yld.fieldAddr hS rfl 3 Try.underlying152 rfl rfl info3 (by decide)) ?_
  intro aa hS
  refine sB (Bstore hS hR rfl rfl (by rfl) info3 (by rfl) pkQ (by rfl) (by have h4 : (Try.t152).size = 4 := rfl; simp only [h4, List.length_singleton]; rw [flat_len eS_len]; omega) ?_); clear hR; intro ww hR
  replace hR := hR.flatSet (enc := eS) (m := 4) (k := m - 1) (j := 3) (((m - 1 : Nat) : Int), 0, false, -1) eS_len (by omega) (by have h4 : (Try.t152).size = 4 := rfl; simp only [h4]; omega) (Nat.le_of_ble_eq_true rfl) (by rw [hI.get (by omega), if_pos (by omega)]; rfl)
  refine wpList_nil ?_
  refine hK57 _ _ ?_
  refine wp_seq_k ?_; intro K58 hK58
  refine wp_region_lit ?_
  revert aa
  refine qM hR ?_
  refine qN hR ?_
  refine qN hR ?_
  intro aa hS
  refine wpList_nil ?_
  refine hK58 _ _ ?_
  refine wp_ret ?_
  repeat first | with_reducible refine thenR ?_ | with_reducible refine blockR ?_ | with_reducible refine scopeR ?_
  refine retN (fn := Try.f46) (e := .ret) (.inl rfl) Try.results46 hS hR ⟨_, .cons (.tmp rfl) (.cons (.tmp rfl) (.nil)), rfl, ?_⟩
  refine ⟨_, rfl, Sep.arenaI (br := bb13) (n := m) (f := 0) (c := 0) (rs := rs.set (m - 1) (((m - 1 : Nat) : Int), 0, false, -1)) (by rw [Int.toNat_natCast]; exact hI.done (by omega) (by omega)) (by rw [List.length_set]; omega) (by rw [Int.toNat_natCast]; exact new_first (by omega)) (by rw [Int.toNat_natCast]; exact new_cnt) (hR.sub (Ex.take pkQ (Ex.take pkQ (by repeat (first | with_reducible exact Ex.refl | with_reducible apply Ex.drop)))))⟩
end Go.Proofs.Ythhndmlfgjcgpaa.Sx
