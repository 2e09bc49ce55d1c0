/-
 
-/
import Derived.Test.YtkhdejjompbklaaKBkA
import Derived.Test.YtkhdejjompbklaaKPb
namespace Go.Proofs.Ytkhdejjompbklaa.Sx
open Go
set_option maxRecDepth 20000
set_option linter.unusedVariables false
set_option linter.unusedSimpArgs false
theorem info4 : Try.prog.info? 4 = some Try.t4 := by kernel_rfl
theorem info108 : Try.prog.info? 108 = some Try.t108 := by kernel_rfl
theorem info116 : Try.prog.info? 116 = some Try.t116 := by kernel_rfl
theorem info136 : Try.prog.info? 136 = some Try.t136 := by kernel_rfl
theorem bld110_0 (x0_a : Option Addr) (x0_n x0_c : Nat) (w : World) : (Instr.build 110 [(0, .slice x0_a x0_n x0_c)].toArray).run Try.prog w = .ok (.agg [.slice x0_a x0_n x0_c, .int .i64 0, .int .i64 0].toArray) w := by kernel_rfl
theorem bld116_  (w : World) : (Instr.build 116 [].toArray).run Try.prog w = .ok (.agg [.int .i64 0, .int .i64 0].toArray) w := by kernel_rfl
theorem eql116 (o1 o2 : Operand) (x_0 : Int) (x_1 : Int) (y_0 : Int) (y_1 : Int) (w : World) : (do eqGuard .eql 116 o1 o2 (.agg [.int .i64 x_0, .int .i64 x_1].toArray) (.agg [.int .i64 y_0, .int .i64 y_1].toArray); binOp .eql 116 (.agg [.int .i64 x_0, .int .i64 x_1].toArray) (.agg [.int .i64 y_0, .int .i64 y_1].toArray) : Sem Value).run Try.prog w = .ok (.bool (decide (x_0 = y_0 ∧ x_1 = y_1))) w := by
 by_cases h0 : x_0 = y_0
 ·
  skip
  by_cases h1 : x_1 = y_1
  ·
   simp [go_sem, h0, h1]
  ·
   simp [go_sem, h0, h1]
 ·
  simp [go_sem, h0]
theorem some_ok {b n : Nat} {q : Option Addr} {x y : Value} {l : List HP} {w : World} (hR : Sep (blk b [.slice q n n, x, y] 110 :: l) w) (hn : 0 < n) : CallR Try.prog 59 [.pointer (some ⟨b, 0, none⟩)] w (fun v w' => v = .bool true ∧ Sep (blk b [.slice q n n, x, y] 110 :: l) w') := by
 refine enter Try.func59 rfl Try.ntmps59 (Nat.le_of_ble_eq_true rfl) ?_; intro aa hS
 refine wp_seq_k ?_; intro K50 hK50
 refine wp_region_lit ?_
 revert aa
 refine qN hR ?_
 intro aa hS
 refine wpList_nil ?_
 refine hK50 _ _ ?_
 refine wp_seq_k ?_; intro K51 hK51
 refine wp_region_lit ?_
 revert aa
 refine qM hR ?_
 refine qA hR rfl (fun _ hS => Yld.neqNil hS rfl rfl Try.underlying70) ?_
 refine qB (t := 4) true rfl (by simp) ?_
 refine qM hR ?_
 refine qMg hR ?_
 refine qAg hR rfl rfl rfl (fun _ hS => Yld.nilCheck hS rfl) ?_
 refine qAg hR rfl rfl rfl (fun _ hS => Yld.fieldAddr hS rfl 0 Try.underlying110 rfl rfl info108 (by decide)) ?_
 refine qAg hR rfl rfl rfl (fun _ hS => Yld.load1 hS rfl Try.underlying108 rfl (Rd.blk pkQ (by rfl))) ?_
 refine qAg hR rfl rfl rfl (fun _ hS => Yld.len hS rfl Try.underlying108) ?_
 refine qAg hR rfl rfl rfl (fun _ hS => Yld.gtr hS rfl rfl) ?_
 refine qB (t := 11) true rfl (by simp; omega) ?_
 refine qA hR rfl (fun _ hS => Yld.pickT hS rfl rfl) ?_
 refine qN hR ?_
 intro aa hS
 refine wpList_nil ?_
 refine hK51 _ _ ?_
 refine wp_ret ?_
 repeat first | with_reducible refine thenR ?_ | with_reducible refine blockR ?_ | with_reducible refine scopeR ?_
 refine ret1 (fn := Try.f59) (e := .ret) (.inl rfl) Try.results59 hS hR ⟨_, (.tmp rfl), ?_⟩
 exact ⟨rfl, (hR.sub (by repeat (first | with_reducible exact Ex.refl | with_reducible apply Ex.drop)))⟩
theorem At_ok {A : Ar} {b br : Nat} {rs : List Srow} {l : List HP} {w : World} (hA : Rep A rs) {s : Int} (hR : Sep (blk b [.slice (some ⟨br, 0, none⟩) rs.length rs.length, .int .i64 (hd A.free), .int .i64 (cnt A.tk)] 110 :: blk br (rs.flatMap eS) 136 :: l) w) : CallR Try.prog 64 [.pointer (some ⟨b, 0, none⟩), .int .i64 s] w (fun v w' => v = atV A s ∧ Sep (blk b [.slice (some ⟨br, 0, none⟩) rs.length rs.length, .int .i64 (hd A.free), .int .i64 (cnt A.tk)] 110 :: blk br (rs.flatMap eS) 136 :: l) w') := by
 refine enter Try.func64 rfl Try.ntmps64 (Nat.le_of_ble_eq_true rfl) ?_; intro aa hS
 have hlen := hA.len
 have hpos := hA.ok.pos
 have hlt := hA.ok.len
 refine wp_seq_k ?_; intro K52 hK52
 refine wp_region_lit ?_
 refine sB (Balloc hS hR info116 (by rfl) (by rfl) (by decide) ?_); clear hS hR; intro aa ww bb4 hS hR
 revert aa
 refine qN hR ?_
 intro aa hS
 refine wpList_nil ?_
 refine hK52 _ _ ?_
 refine wp_seq_k ?_; intro K53 hK53
 refine wp_seq_k ?_; intro K54 hK54
 refine wp_region_lit ?_
 revert aa
 refine qM hR ?_
 intro aa hS
 refine sB (Bcall hS rfl Try.call59 (some_ok (hR.pk (r := blk b _ _) pkQ) (by omega)) (by decide) ?_); clear hS; intro aa ww vv hS hp
 clear hR
 obtain ⟨rfl, hR⟩ := hp
 revert aa
 refine qA hR rfl (fun _ hS => Yld.not hS rfl) ?_
 refine qM hR ?_
 refine qMg hR ?_
 refine qAg hR rfl rfl rfl (fun _ hS => Yld.lss hS rfl rfl) ?_
 refine qA hR rfl (fun _ hS => Yld.pickF hS rfl rfl) ?_
 refine qM hR ?_
 intro aa hS
 refine hS.splitB (t := 13) rfl ?_ ?_ <;> clear hS
 ·
  intro hg hS
  revert aa
  refine qZ ?_
  refine qZ ?_
  refine qZ ?_
  refine qZ ?_
  refine qZ ?_
  refine qZ ?_
  refine qZ ?_
  refine qA hR rfl (fun _ hS => Yld.pickT hS rfl rfl) ?_
  refine qM hR ?_
  refine qZ ?_
  refine qZ ?_
  refine qZ ?_
  refine qZ ?_
  refine qZ ?_
  refine qZ ?_
  refine qZ ?_
  refine qZ ?_
  refine qZ ?_
  refine qA hR rfl (fun _ hS => Yld.pickT hS rfl rfl) ?_
  intro aa hS
  refine wpList_nil ?_
  refine hK54 _ _ ?_
  refine condT hS rfl ?_
  refine wp_seq_k ?_; intro K55 hK55
  refine wp_region_lit ?_
  refine sA hS hR (Yld.build hS rfl (bld116_)) (by decide) ?_; clear hS; intro aa hS
  refine sB (Bstore hS hR rfl rfl (by rfl) info116 (by rfl) pkQ (by rfl) (Nat.le_of_ble_eq_true rfl) ?_); clear hR; intro ww hR
  revert aa
  refine qN hR ?_
  intro aa hS
  refine wpList_nil ?_
  refine hK55 _ _ ?_
  refine wp_ret ?_
  repeat first | with_reducible refine thenR ?_ | with_reducible refine blockR ?_ | with_reducible refine scopeR ?_
  refine retN (fn := Try.f64) (e := .ret) (.inl rfl) Try.results64 hS hR ⟨_, .cons (.agg rfl Try.underlying116 rfl info116 (Rds.cons (Rd.blk pkQ (by rfl)) (Rds.cons (Rd.blk pkQ (by rfl)) (Rds.nil))) (by rfl)) (.cons (.tmp rfl) (.nil)), rfl, ?_⟩
  refine ⟨?_, (hR.sub (by repeat (first | with_reducible exact Ex.refl | with_reducible apply Ex.drop)))⟩
  first | (rw [atV_none (Ar.at_out hA (by omega))]) | (rw [atV_none (Ar.at_no hA hr (by simpa using ‹_›))]) | (rw [atV_some (Ar.at_some hA hr (by simpa using ‹_›)), hrow.1])
 ·
  intro hg hS
  revert aa
  refine qMg hR ?_
  refine qMg hR ?_
  refine qAg hR rfl rfl rfl (fun _ hS => Yld.nilCheck hS rfl) ?_
  refine qAg hR rfl rfl rfl (fun _ hS => Yld.fieldAddr hS rfl 0 Try.underlying110 rfl rfl info108 (by decide)) ?_
  refine qAg hR rfl rfl rfl (fun _ hS => Yld.load1 hS rfl Try.underlying108 rfl (Rd.blk pkQ (by rfl))) ?_
  refine qAg hR rfl rfl rfl (fun _ hS => Yld.len hS rfl Try.underlying108) ?_
  refine qAg hR rfl rfl rfl (fun _ hS => Yld.geq hS rfl rfl) ?_
  refine qA hR rfl (fun _ hS => Yld.pickF hS rfl rfl) ?_
  refine qM hR ?_
  intro aa hS
  refine hS.splitB (t := 22) rfl ?_ ?_ <;> clear hS
  ·
   intro hg hS
   revert aa
   refine qZ ?_
   refine qZ ?_
   refine qZ ?_
   refine qZ ?_
   refine qZ ?_
   refine qZ ?_
   refine qZ ?_
   refine qZ ?_
   refine qZ ?_
   refine qA hR rfl (fun _ hS => Yld.pickT hS rfl rfl) ?_
   intro aa hS
   refine wpList_nil ?_
   refine hK54 _ _ ?_
   refine condT hS rfl ?_
   refine wp_seq_k ?_; intro K56 hK56
   refine wp_region_lit ?_
   refine sA hS hR (Yld.build hS rfl (bld116_)) (by decide) ?_; clear hS; intro aa hS
   refine sB (Bstore hS hR rfl rfl (by rfl) info116 (by rfl) pkQ (by rfl) (Nat.le_of_ble_eq_true rfl) ?_); clear hR; intro ww hR
   revert aa
   refine qN hR ?_
   intro aa hS
   refine wpList_nil ?_
   refine hK56 _ _ ?_
   refine wp_ret ?_
   repeat first | with_reducible refine thenR ?_ | with_reducible refine blockR ?_ | with_reducible refine scopeR ?_
   refine retN (fn := Try.f64) (e := .ret) (.inl rfl) Try.results64 hS hR ⟨_, .cons (.agg rfl Try.underlying116 rfl info116 (Rds.cons (Rd.blk pkQ (by rfl)) (Rds.cons (Rd.blk pkQ (by rfl)) (Rds.nil))) (by rfl)) (.cons (.tmp rfl) (.nil)), rfl, ?_⟩
   refine ⟨?_, (hR.sub (by repeat (first | with_reducible exact Ex.refl | with_reducible apply Ex.drop)))⟩
   first | (rw [atV_none (Ar.at_out hA (by omega))]) | (rw [atV_none (Ar.at_no hA hr (by simpa using ‹_›))]) | (rw [atV_some (Ar.at_some hA hr (by simpa using ‹_›)), hrow.1])
  ·
   intro hg hS
   obtain ⟨i, hi⟩ : ∃ i : Nat, s = i := ⟨s.toNat, by omega⟩
   subst hi
   obtain ⟨r, hr⟩ : ∃ r, rs[i]? = some r := ⟨rs[i]'(by omega), by simp⟩
   have hge : rs[i]'(by omega) = r := by simpa using (List.getElem?_eq_some_iff.1 hr).2
   have hrow := hA.row i r hr
   revert aa
   refine qMg hR ?_
   refine qAg hR rfl rfl rfl (fun _ hS => Yld.nilCheck hS rfl) ?_
   refine qAg hR rfl rfl rfl (fun _ hS => Yld.fieldAddr hS rfl 0 Try.underlying110 rfl rfl info108 (by decide)) ?_
   refine qAg hR rfl rfl rfl (fun _ hS => Yld.load1 hS rfl Try.underlying108 rfl (Rd.blk pkQ (by rfl))) ?_
   refine qMg hR ?_
   refine qAg hR rfl rfl rfl (fun _ hS => Yld.indexSlice hS rfl rfl Try.underlying108 info136 (by omega) (by omega)) ?_
   refine qAg hR rfl rfl rfl (fun _ hS => Yld.fieldAddr hS rfl 2 Try.underlying136 rfl rfl info4 (by decide)) ?_
   refine qAg hR rfl rfl rfl (fun _ hS => Yld.load1 hS rfl Try.underlying4 rfl ((Rd.flat (j := 2) (v := .bool r.2.2.1) pkQ eS_len (show i < rs.length by omega) (by rw [hge]; rfl)).at (by show 0 + i * 4 + 2 = _; omega))) ?_
   refine qAg hR rfl rfl rfl (fun _ hS => Yld.not hS rfl) ?_
   refine qA hR rfl (fun _ hS => Yld.pickF hS rfl rfl) ?_
   intro aa hS
   refine wpList_nil ?_
   refine hK54 _ _ ?_
   refine hS.splitB (t := 32) rfl ?_ ?_ <;> clear hS
   ·
    intro hg hS
    refine condT hS rfl ?_
    refine wp_seq_k ?_; intro K57 hK57
    refine wp_region_lit ?_
    refine sA hS hR (Yld.build hS rfl (bld116_)) (by decide) ?_; clear hS; intro aa hS
    refine sB (Bstore hS hR rfl rfl (by rfl) info116 (by rfl) pkQ (by rfl) (Nat.le_of_ble_eq_true rfl) ?_); clear hR; intro ww hR
    revert aa
    refine qN hR ?_
    intro aa hS
    refine wpList_nil ?_
    refine hK57 _ _ ?_
    refine wp_ret ?_
    repeat first | with_reducible refine thenR ?_ | with_reducible refine blockR ?_ | with_reducible refine scopeR ?_
    refine retN (fn := Try.f64) (e := .ret) (.inl rfl) Try.results64 hS hR ⟨_, .cons (.agg rfl Try.underlying116 rfl info116 (Rds.cons (Rd.blk pkQ (by rfl)) (Rds.cons (Rd.blk pkQ (by rfl)) (Rds.nil))) (by rfl)) (.cons (.tmp rfl) (.nil)), rfl, ?_⟩
    refine ⟨?_, (hR.sub (by repeat (first | with_reducible exact Ex.refl | with_reducible apply Ex.drop)))⟩
    first | (rw [atV_none (Ar.at_out hA (by omega))]) | (rw [atV_none (Ar.at_no hA hr (by simpa using ‹_›))]) | (rw [atV_some (Ar.at_some hA hr (by simpa using ‹_›)), hrow.1])
   ·
    intro hg hS
    refine condF hS rfl ?_
    refine wp_skip ?_
    refine hK53 _ _ ?_
    refine wp_seq_k ?_; intro K58 hK58
    refine wp_region_lit ?_
    revert aa
    refine qM hR ?_
    refine qA hR rfl (fun _ hS => Yld.nilCheck hS rfl) ?_
    refine qA hR rfl (fun _ hS => Yld.fieldAddr hS rfl 0 Try.underlying110 rfl rfl info108 (by decide)) ?_
    refine qA hR rfl (fun _ hS => Yld.load1 hS rfl Try.underlying108 rfl (Rd.blk pkQ (by rfl))) ?_
    refine qM hR ?_
    refine qA hR rfl (fun _ hS => Yld.indexSlice hS rfl rfl Try.underlying108 info136 (by omega) (by omega)) ?_
    refine qA hR rfl (fun _ hS => Yld.fieldAddr hS rfl 0 Try.underlying136 rfl rfl info116 (by decide)) ?_
    refine qA hR rfl (fun _ hS => Yld.loadAgg (vs := [.int .i64 r.1, .int .i64 r.2.1]) hS rfl Try.underlying116 rfl info116 (Rds.at (Rds.part (j := 0) (Rds.flat (rest := []) (enc := eS) (m := 4) (xs := rs) (by simpa using pkQ) eS_len (show i < rs.length by omega)) (by rw [hge]; rfl)) (by show 0 + i * 4 + 0 = _; omega)) (by rfl)) ?_
    intro aa hS
    refine sB (Bstore hS hR rfl rfl (by rfl) info116 (by rfl) pkQ (by rfl) (Nat.le_of_ble_eq_true rfl) ?_); clear hR; intro ww hR
    revert aa
    refine qN hR ?_
    intro aa hS
    refine wpList_nil ?_
    refine hK58 _ _ ?_
    refine wp_ret ?_
    repeat first | with_reducible refine thenR ?_ | with_reducible refine blockR ?_ | with_reducible refine scopeR ?_
    refine retN (fn := Try.f64) (e := .ret) (.inl rfl) Try.results64 hS hR ⟨_, .cons (.agg rfl Try.underlying116 rfl info116 (Rds.cons (Rd.blk pkQ (by rfl)) (Rds.cons (Rd.blk pkQ (by rfl)) (Rds.nil))) (by rfl)) (.cons (.tmp rfl) (.nil)), rfl, ?_⟩
    refine ⟨?_, (hR.sub (by repeat (first | with_reducible exact Ex.refl | with_reducible apply Ex.drop)))⟩
    first | (rw [atV_none (Ar.at_out hA (by omega))]) | (rw [atV_none (Ar.at_no hA hr (by simpa using ‹_›))]) | (rw [atV_some (Ar.at_some hA hr (by simpa using ‹_›)), hrow.1])
theorem Live_ok {A : Ar} {b br : Nat} {rs : List Srow} {l : List HP} {w : World} (hA : Rep A rs) {s u : Int} (hR : Sep (blk b [.slice (some ⟨br, 0, none⟩) rs.length rs.length, .int .i64 (hd A.free), .int .i64 (cnt A.tk)] 110 :: blk br (rs.flatMap eS) 136 :: l) w) : CallR Try.prog 86 [.pointer (some ⟨b, 0, none⟩), .agg [.int .i64 s, .int .i64 u].toArray] w (fun v w' => v = .bool (decide (A.at s = some u)) ∧ Sep (blk b [.slice (some ⟨br, 0, none⟩) rs.length rs.length, .int .i64 (hd A.free), .int .i64 (cnt A.tk)] 110 :: blk br (rs.flatMap eS) 136 :: l) w') := by
 refine enter Try.func86 rfl Try.ntmps86 (Nat.le_of_ble_eq_true rfl) ?_; intro aa hS
 refine wp_seq_k ?_; intro K59 hK59
 refine wp_region_lit ?_
 refine sB (Bbox hS hR rfl (by rfl) (by decide) ?_); clear hS hR; intro aa ww bb3 hS hR
 revert aa
 refine qN hR ?_
 intro aa hS
 refine wpList_nil ?_
 refine hK59 _ _ ?_
 refine wp_seq_k ?_; intro K60 hK60
 refine wp_region_lit ?_
 revert aa
 refine qM hR ?_
 refine qA hR rfl (fun _ hS => Yld.fieldAddr hS rfl 0 Try.underlying116 rfl rfl info3 (by decide)) ?_
 refine qA hR rfl (fun _ hS => Yld.load1 hS rfl Try.underlying3 rfl (Rd.blk pkQ (by rfl))) ?_
 intro aa hS
 refine sB (Bcall hS rfl Try.call64 (At_ok hA ((hR.pk (r := blk br _ 136) pkQ).pk (r := blk b _ 110) pkQ)) (by decide) ?_); clear hS; intro aa ww vv hS hp
 clear hR
 obtain ⟨rfl, hR⟩ := hp
 unfold atV at hS
 revert aa
 refine qM hR ?_
 refine qX hR ?_
 refine qX hR ?_
 intro aa hS
 refine sB (Balloc hS hR info116 (by rfl) (by rfl) (by decide) ?_); clear hS hR; intro aa ww bb5 hS hR
 refine sB (Bstore hS hR rfl rfl (by rfl) info116 (by rfl) pkQ (by rfl) (Nat.le_of_ble_eq_true rfl) ?_); clear hR; intro ww hR
 revert aa
 refine qN hR ?_
 intro aa hS
 refine wpList_nil ?_
 refine hK60 _ _ ?_
 refine wp_seq_k ?_; intro K61 hK61
 refine wp_region_lit ?_
 revert aa
 refine qM hR ?_
 refine qM hR ?_
 intro aa hS
 refine hS.splitB (t := 15) rfl ?_ ?_ <;> clear hS
 ·
  intro hg hS
  revert aa
  refine qAg hR rfl rfl rfl (fun _ hS => Yld.loadAgg hS rfl Try.underlying116 rfl info116 (Rds.cons (Rd.blk pkQ (by rfl)) (Rds.cons (Rd.blk pkQ (by rfl)) (Rds.nil))) (by rfl)) ?_
  refine qAg hR rfl rfl rfl (fun _ hS => Yld.loadAgg hS rfl Try.underlying116 rfl info116 (Rds.cons (Rd.blk pkQ (by rfl)) (Rds.cons (Rd.blk pkQ (by rfl)) (Rds.nil))) (by rfl)) ?_
  refine qAg hR rfl rfl rfl (fun _ hS => Yld.binRun hS rfl rfl (eql116 _ _ _ _ _ _)) ?_
  refine qA hR rfl (fun _ hS => Yld.pickT hS rfl rfl) ?_
  refine qN hR ?_
  intro aa hS
  refine wpList_nil ?_
  refine hK61 _ _ ?_
  refine wp_ret ?_
  repeat first | with_reducible refine thenR ?_ | with_reducible refine blockR ?_ | with_reducible refine scopeR ?_
  refine ret1 (fn := Try.f86) (e := .ret) (.inl rfl) Try.results86 hS hR ⟨_, (.tmp rfl), ?_⟩
  refine ⟨?_, (hR.sub (Ex.take pkQ (Ex.take pkQ (by repeat (first | with_reducible exact Ex.refl | with_reducible apply Ex.drop)))))⟩
  first | exact live_yes hg | exact live_no hg
 ·
  intro hg hS
  revert aa
  refine qZ ?_
  refine qZ ?_
  refine qZ ?_
  refine qA hR rfl (fun _ hS => Yld.pickF hS rfl rfl) ?_
  refine qN hR ?_
  intro aa hS
  refine wpList_nil ?_
  refine hK61 _ _ ?_
  refine wp_ret ?_
  repeat first | with_reducible refine thenR ?_ | with_reducible refine blockR ?_ | with_reducible refine scopeR ?_
  refine ret1 (fn := Try.f86) (e := .ret) (.inl rfl) Try.results86 hS hR ⟨_, (.tmp rfl), ?_⟩
  refine ⟨?_, (hR.sub (Ex.take pkQ (Ex.take pkQ (by repeat (first | with_reducible exact Ex.refl | with_reducible apply Ex.drop)))))⟩
  first | exact live_yes hg | exact live_no hg
theorem Take_ok {A : Ar} {b br : Nat} {rs : List Srow} {l : List HP} {w : World} (hA : Rep A rs) (hR : Sep (blk b [.slice (some ⟨br, 0, none⟩) rs.length rs.length, .int .i64 (hd A.free), .int .i64 (cnt A.tk)] 110 :: blk br (rs.flatMap eS) 136 :: l) w) : CallR Try.prog 66 [.pointer (some ⟨b, 0, none⟩)] w (fun v w' => v = .tuple [.agg [.int .i64 A.top.1, .int .i64 A.top.2.1].toArray, .int .i64 A.top.2.2].toArray ∧ Sep (arena 110 136 b A.take :: l) w') := by
 refine enter Try.func66 rfl Try.ntmps66 (Nat.le_of_ble_eq_true rfl) ?_; intro aa hS
 have hlen := hA.len
 have hpos := hA.ok.pos
 have hlt := hA.ok.len
 refine wp_seq_k ?_; intro K62 hK62
 refine wp_region_lit ?_
 refine sB (Balloc hS hR info116 (by rfl) (by rfl) (by decide) ?_); clear hS hR; intro aa ww bb2 hS hR
 revert aa
 refine qN hR ?_
 intro aa hS
 refine wpList_nil ?_
 refine hK62 _ _ ?_
 refine wp_seq_k ?_; intro K63 hK63
 refine wp_block ?_
 refine wp_seq_k ?_; intro K64 hK64
 refine wp_region_lit ?_
 revert aa
 refine qM hR ?_
 intro aa hS
 refine sB (Bcall hS rfl Try.call59 (some_ok (hR.pk (r := blk b _ _) pkQ) (by omega)) (by decide) ?_); clear hS; intro aa ww vv hS hp
 clear hR
 obtain ⟨rfl, hR⟩ := hp
 revert aa
 refine qA hR rfl (fun _ hS => Yld.not hS rfl) ?_
 refine qN hR ?_
 intro aa hS
 refine wpList_nil ?_
 refine hK64 _ _ ?_
 refine condF hS rfl ?_
 refine wp_seq_k ?_; intro K65 hK65
 refine wp_region_lit ?_
 revert aa
 refine qM hR ?_
 refine qA hR rfl (fun _ hS => Yld.nilCheck hS rfl) ?_
 refine qA hR rfl (fun _ hS => Yld.fieldAddr hS rfl 1 Try.underlying110 rfl rfl info3 (by decide)) ?_
 refine qA hR rfl (fun _ hS => Yld.load1 hS rfl Try.underlying3 rfl (Rd.blk pkQ (by rfl))) ?_
 refine qA hR rfl (fun _ hS => Yld.lss hS rfl rfl) ?_
 refine qN hR ?_
 intro aa hS
 refine wpList_nil ?_
 refine hK65 _ _ ?_
 refine hS.splitB (t := 10) rfl ?_ ?_ <;> clear hS
 ·
  intro hg hS
  have hf := hd_neg hg
  refine condT hS rfl ?_
  refine wp_seq_k ?_; intro K66 hK66
  refine wp_region_lit ?_
  refine sA hS hR (Yld.build hS rfl (bld116_)) (by decide) ?_; clear hS; intro aa hS
  refine sB (Bstore hS hR rfl rfl (by rfl) info116 (by rfl) pkQ (by rfl) (Nat.le_of_ble_eq_true rfl) ?_); clear hR; intro ww hR
  revert aa
  refine qN hR ?_
  intro aa hS
  refine wpList_nil ?_
  refine hK66 _ _ ?_
  refine wp_ret ?_
  repeat first | with_reducible refine thenR ?_ | with_reducible refine blockR ?_ | with_reducible refine scopeR ?_
  refine retN (fn := Try.f66) (e := .ret) (.inl rfl) Try.results66 hS hR ⟨_, .cons (.agg rfl Try.underlying116 rfl info116 (Rds.cons (Rd.blk pkQ (by rfl)) (Rds.cons (Rd.blk pkQ (by rfl)) (Rds.nil))) (by rfl)) (.cons (.tmp rfl) (.nil)), rfl, ?_⟩
  try dsimp only [lay, List.set] at hR
  first
   | exact ⟨by rw [Ar.top_nil hf], Sep.arenaI (by rw [Ar.take_nil hf]; exact hA) rfl (by rw [Ar.take_nil hf]) (by rw [Ar.take_nil hf]) (hR.sub (Ex.take pkQ (Ex.take pkQ (by repeat (first | with_reducible exact Ex.refl | with_reducible apply Ex.drop)))))⟩
   | (refine ⟨by rw [Ar.top_cons hf h2, h1], Sep.arenaI (hA.take hf hr) ?_ (hA.take_fst hf h5) (hA.take_cnt hf) (hR.sub (Ex.take pkQ (Ex.take pkQ (by repeat (first | with_reducible exact Ex.refl | with_reducible apply Ex.drop)))))⟩; rw [List.length_set])
 ·
  intro hg hS
  obtain ⟨i, fs, hf⟩ := hd_pos hg
  obtain ⟨r, hr, h1, h2, h3, h4, h5⟩ := hA.first hf
  have hhd : hd A.free = (i : Int) := by rw [hf]; rfl
  rw [hhd] at hR
  have hil := (List.getElem?_eq_some_iff.1 hr).1
  have hge : rs[i] = r := (List.getElem?_eq_some_iff.1 hr).2
  have hcb := cnt_bd A.tk
  refine condF hS rfl ?_
  refine wp_skip ?_
  refine hK63 _ _ ?_
  refine wp_seq_k ?_; intro K67 hK67
  refine drawn krQ hR Ex.refl ?_; clear hR; intro ww hR hR0
  revert aa
  refine eA 0 rfl krQ (fun _ _ _ h => h) hR0 rfl (fun _ hS => Yld.move hS rfl) ?_
  refine eA 1 rfl krQ (fun _ _ _ h => h) hR0 rfl (fun _ hS => Yld.nilCheck hS rfl) ?_
  refine eA 2 rfl krQ (fun _ _ _ h => h) hR0 rfl (fun _ hS => Yld.fieldAddr hS rfl 0 Try.underlying110 rfl rfl info108 (by decide)) ?_
  refine eA 3 rfl krQ (fun _ _ _ h => h) hR0 rfl (fun _ hS => Yld.load1 hS rfl Try.underlying108 rfl (Rd.blk pkQ (by rfl))) ?_
  refine eA 4 rfl krQ (fun _ _ _ h => h) hR0 rfl (fun _ hS => Yld.move hS rfl) ?_
  refine eA 5 rfl krQ (fun _ _ _ h => h) hR0 rfl (fun _ hS => Yld.nilCheck hS rfl) ?_
  refine eA 6 rfl krQ (fun _ _ _ h => h) hR0 rfl (fun _ hS => Yld.fieldAddr hS rfl 1 Try.underlying110 rfl rfl info3 (by decide)) ?_
  refine eA 7 rfl krQ (fun _ _ _ h => h) hR0 rfl (fun _ hS => Yld.load1 hS rfl Try.underlying3 rfl (Rd.blk pkQ (by rfl))) ?_
  refine eA 8 rfl krQ (fun _ _ _ h => h) hR0 rfl (fun _ hS => Yld.indexSlice hS rfl rfl Try.underlying108 info136 (by omega) (by omega)) ?_
  refine eA 9 rfl krQ (fun _ _ _ h => h) hR0 rfl (fun _ hS => Yld.assign hS rfl) ?_
  intro aa hS
  refine wpAnyH_done krQ ?_ _; clear hR0
  refine hK67 _ _ ?_
  refine wp_seq_k ?_; intro K68 hK68
  refine wp_region_lit ?_
  revert aa
  refine qM hR ?_
  refine qM hR ?_
  refine qM hR ?_
  refine qA hR rfl (fun _ hS => Yld.nilCheck hS rfl) ?_
  refine qA hR rfl (fun _ hS => Yld.fieldAddr hS rfl 3 Try.underlying136 rfl rfl info3 (by decide)) ?_
  refine qA hR rfl (fun _ hS => Yld.load1 hS rfl Try.underlying3 rfl ((Rd.flat (j := 3) (v := .int .i64 r.2.2.2) pkQ eS_len (by simpa using hil) (by rw [hge]; rfl)).at (by have h4 : (Try.t136).size = 4 := rfl; simp only [h4, Int.toNat_natCast]; omega))) ?_
  refine qA hR rfl (fun _ hS => Yld.nilCheck hS rfl) ?_
  refine qA hR rfl (fun _ hS => Yld.fieldAddr hS rfl 1 Try.underlying110 rfl rfl info3 (by decide)) ?_
  intro aa hS
  refine sB (Bstore hS hR rfl rfl (by rfl) info3 (by rfl) pkQ (by rfl) (Nat.le_of_ble_eq_true rfl) ?_); clear hR; intro ww hR
  revert aa
  refine qA hR rfl (fun _ hS => Yld.nilCheck hS rfl) ?_
  refine qA hR rfl (fun _ hS => Yld.fieldAddr hS rfl 2 Try.underlying136 rfl rfl info4 (by decide)) ?_
  intro aa hS
  refine sB (Bstore hS hR rfl rfl (by rfl) info4 (by rfl) pkQ (by rfl) (by have h4 : (Try.t136).size = 4 := rfl; simp only [h4, Int.toNat_natCast, List.length_singleton]; rw [flat_len eS_len]; omega) ?_); clear hR; intro ww hR
  replace hR := hR.flatSet (enc := eS) (m := 4) (k := i) (j := 2) (r.1, r.2.1, true, r.2.2.2) eS_len (by simpa using hil) (by have h4 : (Try.t136).size = 4 := rfl; simp only [h4, Int.toNat_natCast]; omega) (Nat.le_of_ble_eq_true rfl) (by rw [hge]; rfl)
  refine wpList_nil ?_
  refine hK68 _ _ ?_
  refine wp_seq_k ?_; intro K69 hK69
  refine wp_region_lit ?_
  revert aa
  refine qM hR ?_
  refine qA hR rfl (fun _ hS => Yld.nilCheck hS rfl) ?_
  refine qA hR rfl (fun _ hS => Yld.fieldAddr hS rfl 2 Try.underlying110 rfl rfl info3 (by decide)) ?_
  refine qA hR rfl (fun _ hS => Yld.load1 hS rfl Try.underlying3 rfl (Rd.blk pkQ (by rfl))) ?_
  intro aa hS
  refine sA hS hR adQ (by decide) ?_; clear hS; intro aa hS
  revert aa
  refine qA hR rfl (fun _ hS => Yld.nilCheck hS rfl) ?_
  refine qA hR rfl (fun _ hS => Yld.fieldAddr hS rfl 2 Try.underlying110 rfl rfl info3 (by decide)) ?_
  intro aa hS
  refine sB (Bstore hS hR rfl rfl (by rfl) info3 (by rfl) pkQ (by rfl) (Nat.le_of_ble_eq_true rfl) ?_); clear hR; intro ww hR
  refine wpList_nil ?_
  refine hK69 _ _ ?_
  refine wp_seq_k ?_; intro K70 hK70
  refine wp_region_lit ?_
  revert aa
  refine qM hR ?_
  refine qA hR rfl (fun _ hS => Yld.nilCheck hS rfl) ?_
  refine qA hR rfl (fun _ hS => Yld.fieldAddr hS rfl 0 Try.underlying136 rfl rfl info116 (by decide)) ?_
  refine qA hR rfl (fun _ hS => Yld.loadAgg (vs := [.int .i64 r.1, .int .i64 r.2.1]) hS rfl Try.underlying116 rfl info116 (Rds.at (Rds.part (j := 0) (Rds.flat (rest := []) (enc := eS) (m := 4) (xs := rs.set i (r.1, r.2.1, true, r.2.2.2)) (k := i) (by simpa using pkQ) eS_len (by simpa using hil)) (by rw [List.getElem_set_self]; rfl)) (by have h4 : (Try.t136).size = 4 := rfl; simp only [h4, Int.toNat_natCast]; omega)) (by rfl)) ?_
  intro aa hS
  refine sB (Bstore hS hR rfl rfl (by rfl) info116 (by rfl) pkQ (by rfl) (Nat.le_of_ble_eq_true rfl) ?_); clear hR; intro ww hR
  revert aa
  refine qN hR ?_
  intro aa hS
  refine wpList_nil ?_
  refine hK70 _ _ ?_
  refine wp_ret ?_
  repeat first | with_reducible refine thenR ?_ | with_reducible refine blockR ?_ | with_reducible refine scopeR ?_
  refine retN (fn := Try.f66) (e := .ret) (.inl rfl) Try.results66 hS hR ⟨_, .cons (.agg rfl Try.underlying116 rfl info116 (Rds.cons (Rd.blk pkQ (by rfl)) (Rds.cons (Rd.blk pkQ (by rfl)) (Rds.nil))) (by rfl)) (.cons (.tmp rfl) (.nil)), rfl, ?_⟩
  try dsimp only [lay, List.set] at hR
  first
   | exact ⟨by rw [Ar.top_nil hf], Sep.arenaI (by rw [Ar.take_nil hf]; exact hA) rfl (by rw [Ar.take_nil hf]) (by rw [Ar.take_nil hf]) (hR.sub (Ex.take pkQ (Ex.take pkQ (by repeat (first | with_reducible exact Ex.refl | with_reducible apply Ex.drop)))))⟩
   | (refine ⟨by rw [Ar.top_cons hf h2, h1], Sep.arenaI (hA.take hf hr) ?_ (hA.take_fst hf h5) (hA.take_cnt hf) (hR.sub (Ex.take pkQ (Ex.take pkQ (by repeat (first | with_reducible exact Ex.refl | with_reducible apply Ex.drop)))))⟩; rw [List.length_set])
theorem Give_ok {A : Ar} {b br : Nat} {rs : List Srow} {l : List HP} {w : World} (hA : Rep A rs) {s u : Int} (hR : Sep (blk b [.slice (some ⟨br, 0, none⟩) rs.length rs.length, .int .i64 (hd A.free), .int .i64 (cnt A.tk)] 110 :: blk br (rs.flatMap eS) 136 :: l) w) : CallR Try.prog 65 [.pointer (some ⟨b, 0, none⟩), .agg [.int .i64 s, .int .i64 u].toArray] w (fun v w' => v = .int .i64 (A.giveE s u) ∧ Sep (arena 110 136 b (A.giveH s u) :: l) w') := by
 refine enter Try.func65 rfl Try.ntmps65 (Nat.le_of_ble_eq_true rfl) ?_; intro aa hS
 have hlen := hA.len
 have hpos := hA.ok.pos
 have hlt := hA.ok.len
 refine wp_seq_k ?_; intro K71 hK71
 refine wp_region_lit ?_
 refine sB (Bbox hS hR rfl (by rfl) (by decide) ?_); clear hS hR; intro aa ww bb3 hS hR
 revert aa
 refine qN hR ?_
 intro aa hS
 refine wpList_nil ?_
 refine hK71 _ _ ?_
 refine wp_seq_k ?_; intro K72 hK72
 refine wp_block ?_
 refine wp_seq_k ?_; intro K73 hK73
 refine wp_region_lit ?_
 revert aa
 refine qM hR ?_
 intro aa hS
 refine sB (Bcall hS rfl Try.call59 (some_ok (hR.pk (r := blk b _ _) pkQ) (by omega)) (by decide) ?_); clear hS; intro aa ww vv hS hp
 clear hR
 obtain ⟨rfl, hR⟩ := hp
 revert aa
 refine qA hR rfl (fun _ hS => Yld.not hS rfl) ?_
 refine qN hR ?_
 intro aa hS
 refine wpList_nil ?_
 refine hK73 _ _ ?_
 refine condF hS rfl ?_
 refine wp_seq_k ?_; intro K74 hK74
 refine wp_region_lit ?_
 revert aa
 refine qM hR ?_
 refine qA hR rfl (fun _ hS => Yld.loadAgg hS rfl Try.underlying116 rfl info116 (Rds.cons (Rd.blk pkQ (by rfl)) (Rds.cons (Rd.blk pkQ (by rfl)) (Rds.nil))) (by rfl)) ?_
 intro aa hS
 refine sB (Bcall hS rfl Try.call86 (Live_ok hA ((hR.pk (r := blk br _ 136) pkQ).pk (r := blk b _ 110) pkQ)) (by decide) ?_); clear hS; intro aa ww vv hS hp
 clear hR
 obtain ⟨rfl, hR⟩ := hp
 revert aa
 refine qA hR rfl (fun _ hS => Yld.not hS rfl) ?_
 refine qN hR ?_
 intro aa hS
 refine wpList_nil ?_
 refine hK74 _ _ ?_
 refine hS.splitB (t := 10) rfl ?_ ?_ <;> clear hS
 ·
  intro hg hS
  refine condT hS rfl ?_
  refine wp_seq_k ?_; intro K75 hK75
  refine wp_region_lit ?_
  revert aa
  refine qN hR ?_
  intro aa hS
  refine wpList_nil ?_
  refine hK75 _ _ ?_
  refine wp_ret ?_
  repeat first | with_reducible refine thenR ?_ | with_reducible refine blockR ?_ | with_reducible refine scopeR ?_
  refine ret1 (fn := Try.f65) (e := .ret) (.inl rfl) Try.results65 hS hR ⟨_, (.tmp rfl), ?_⟩
  try dsimp only [lay, List.set] at hR
  first
   | exact ⟨by simp [Ar.giveE, hg], Sep.arenaI (by rw [Ar.giveH_no hg]; exact hA) rfl (by rw [Ar.giveH_no hg]) (by rw [Ar.giveH_no hg]) (hR.sub (Ex.take pkQ (Ex.take pkQ (by repeat (first | with_reducible exact Ex.refl | with_reducible apply Ex.drop)))))⟩
   | (refine ⟨by simp [Ar.giveE, hg], Sep.arenaI (br := br) (n := rs.length) (f := (i : Int)) (c := cnt A.tk - 1) (rs := rs.set i (r.1, IntKind.i64.wrap (r.2.1 + 1), false, hd A.free)) (by rw [Ar.giveH_yes hg]; exact hA.give h4 hr) ?_ (by rw [Ar.giveH_yes hg]; rfl) (by rw [Ar.giveH_yes hg]; exact hgi) (hR.sub (Ex.take pkQ (Ex.take pkQ (by repeat (first | with_reducible exact Ex.refl | with_reducible apply Ex.drop)))))⟩; rw [List.length_set])
 ·
  intro hg hS
  obtain ⟨i, r, rfl, hr, h1, h2, h3, h4⟩ := hA.at_inv hg
  have hil := (List.getElem?_eq_some_iff.1 hr).1
  have hge : rs[i] = r := (List.getElem?_eq_some_iff.1 hr).2
  have hcb := cnt_bd A.tk
  have hgi := Rep.give_cnt (A := A) h4
  refine condF hS rfl ?_
  refine wp_skip ?_
  refine hK72 _ _ ?_
  refine wp_seq_k ?_; intro K76 hK76
  refine drawn krQ hR Ex.refl ?_; clear hR; intro ww hR hR0
  revert aa
  refine eA 0 rfl krQ (fun _ _ _ h => h) hR0 rfl (fun _ hS => Yld.move hS rfl) ?_
  refine eA 1 rfl krQ (fun _ _ _ h => h) hR0 rfl (fun _ hS => Yld.nilCheck hS rfl) ?_
  refine eA 2 rfl krQ (fun _ _ _ h => h) hR0 rfl (fun _ hS => Yld.fieldAddr hS rfl 0 Try.underlying110 rfl rfl info108 (by decide)) ?_
  refine eA 3 rfl krQ (fun _ _ _ h => h) hR0 rfl (fun _ hS => Yld.load1 hS rfl Try.underlying108 rfl (Rd.blk pkQ (by rfl))) ?_
  refine eA 4 rfl krQ (fun _ _ _ h => h) hR0 rfl (fun _ hS => Yld.fieldAddr hS rfl 0 Try.underlying116 rfl rfl info3 (by decide)) ?_
  refine eA 5 rfl krQ (fun _ _ _ h => h) hR0 rfl (fun _ hS => Yld.load1 hS rfl Try.underlying3 rfl (Rd.blk pkQ (by rfl))) ?_
  refine eA 6 rfl krQ (fun _ _ _ h => h) hR0 rfl (fun _ hS => Yld.indexSlice hS rfl rfl Try.underlying108 info136 (by omega) (by omega)) ?_
  refine eA 7 rfl krQ (fun _ _ _ h => h) hR0 rfl (fun _ hS => Yld.assign hS rfl) ?_
  intro aa hS
  refine wpAnyH_done krQ ?_ _; clear hR0
  refine hK76 _ _ ?_
  refine wp_seq_k ?_; intro K77 hK77
  refine wp_region_lit ?_
  revert aa
  refine qM hR ?_
  refine qM hR ?_
  refine qM hR ?_
  refine qA hR rfl (fun _ hS => Yld.nilCheck hS rfl) ?_
  refine qA hR rfl (fun _ hS => Yld.fieldAddr hS rfl 1 Try.underlying110 rfl rfl info3 (by decide)) ?_
  refine qA hR rfl (fun _ hS => Yld.load1 hS rfl Try.underlying3 rfl (Rd.blk pkQ (by rfl))) ?_
  refine qA hR rfl (fun _ hS => Yld.nilCheck hS rfl) ?_
  refine qA hR rfl (fun _ hS => Yld.fieldAddr hS rfl 2 Try.underlying136 rfl rfl info4 (by decide)) ?_
  intro aa hS
  refine sB (Bstore hS hR rfl rfl (by rfl) info4 (by rfl) pkQ (by rfl) (by have h4 : (Try.t136).size = 4 := rfl; simp only [h4, Int.toNat_natCast, List.length_singleton]; rw [flat_len eS_len]; omega) ?_); clear hR; intro ww hR
  replace hR := hR.flatSet (enc := eS) (m := 4) (k := i) (j := 2) (r.1, r.2.1, false, r.2.2.2) eS_len (by simpa using hil) (by have h4 : (Try.t136).size = 4 := rfl; simp only [h4, Int.toNat_natCast]; omega) (Nat.le_of_ble_eq_true rfl) (by rw [hge]; rfl)
  revert aa
  refine qA hR rfl (fun _ hS => Yld.nilCheck hS rfl) ?_
  refine qA hR rfl (fun _ hS => Yld.fieldAddr hS rfl 3 Try.underlying136 rfl rfl info3 (by decide)) ?_
  intro aa hS
  refine sB (Bstore hS hR rfl rfl (by rfl) info3 (by rfl) pkQ (by rfl) (by have h4 : (Try.t136).size = 4 := rfl; simp only [h4, Int.toNat_natCast, List.length_singleton]; rw [flat_len eS_len, List.length_set]; omega) ?_); clear hR; intro ww hR
  replace hR := hR.flatSet (enc := eS) (m := 4) (k := i) (j := 3) (r.1, r.2.1, false, hd A.free) eS_len (by simpa using hil) (by have h4 : (Try.t136).size = 4 := rfl; simp only [h4, Int.toNat_natCast]; omega) (Nat.le_of_ble_eq_true rfl) (by rw [List.getElem_set_self]; rfl)
  rw [List.set_set] at hR
  refine wpList_nil ?_
  refine hK77 _ _ ?_
  refine wp_seq_k ?_; intro K78 hK78
  refine wp_region_lit ?_
  revert aa
  refine qM hR ?_
  refine qA hR rfl (fun _ hS => Yld.nilCheck hS rfl) ?_
  refine qA hR rfl (fun _ hS => Yld.fieldAddr hS rfl 0 Try.underlying136 rfl rfl info116 (by decide)) ?_
  refine qA hR rfl (fun _ hS => Yld.fieldAddr hS rfl 1 Try.underlying116 rfl rfl info3 (by decide)) ?_
  refine qA hR rfl (fun _ hS => Yld.load1 hS rfl Try.underlying3 rfl ((Rd.flat (j := 1) (v := .int .i64 r.2.1) pkQ eS_len (by simpa using hil) (by rw [List.getElem_set_self]; rfl)).at (by have h4 : (Try.t136).size = 4 := rfl; simp only [h4, Int.toNat_natCast]; omega))) ?_
  refine qA hR rfl (fun _ hS => Yld.add hS rfl rfl) ?_
  refine qA hR rfl (fun _ hS => Yld.nilCheck hS rfl) ?_
  refine qA hR rfl (fun _ hS => Yld.fieldAddr hS rfl 0 Try.underlying136 rfl rfl info116 (by decide)) ?_
  refine qA hR rfl (fun _ hS => Yld.fieldAddr hS rfl 1 Try.underlying116 rfl rfl info3 (by decide)) ?_
  intro aa hS
  refine sB (Bstore hS hR rfl rfl (by rfl) info3 (by rfl) pkQ (by rfl) (by have h4 : (Try.t136).size = 4 := rfl; simp only [h4, Int.toNat_natCast, List.length_singleton]; rw [flat_len eS_len, List.length_set]; omega) ?_); clear hR; intro ww hR
  replace hR := hR.flatSet (enc := eS) (m := 4) (k := i) (j := 1) (r.1, IntKind.i64.wrap (r.2.1 + 1), false, hd A.free) eS_len (by simpa using hil) (by have h4 : (Try.t136).size = 4 := rfl; simp only [h4, Int.toNat_natCast]; omega) (Nat.le_of_ble_eq_true rfl) (by rw [List.getElem_set_self]; rfl)
  rw [List.set_set] at hR
  refine wpList_nil ?_
  refine hK78 _ _ ?_
  refine wp_seq_k ?_; intro K79 hK79
  refine wp_region_lit ?_
  revert aa
  refine qM hR ?_
  refine qA hR rfl (fun _ hS => Yld.fieldAddr hS rfl 0 Try.underlying116 rfl rfl info3 (by decide)) ?_
  refine qA hR rfl (fun _ hS => Yld.load1 hS rfl Try.underlying3 rfl (Rd.blk pkQ (by rfl))) ?_
  refine qA hR rfl (fun _ hS => Yld.nilCheck hS rfl) ?_
  refine qA hR rfl (fun _ hS => Yld.fieldAddr hS rfl 1 Try.underlying110 rfl rfl info3 (by decide)) ?_
  intro aa hS
  refine sB (Bstore hS hR rfl rfl (by rfl) info3 (by rfl) pkQ (by rfl) (Nat.le_of_ble_eq_true rfl) ?_); clear hR; intro ww hR
  refine wpList_nil ?_
  refine hK79 _ _ ?_
  refine wp_seq_k ?_; intro K80 hK80
  refine wp_region_lit ?_
  revert aa
  refine qM hR ?_
  refine qA hR rfl (fun _ hS => Yld.nilCheck hS rfl) ?_
  refine qA hR rfl (fun _ hS => Yld.fieldAddr hS rfl 2 Try.underlying110 rfl rfl info3 (by decide)) ?_
  refine qA hR rfl (fun _ hS => Yld.load1 hS rfl Try.underlying3 rfl (Rd.blk pkQ (by rfl))) ?_
  intro aa hS
  refine sA hS hR suQ (by decide) ?_; clear hS; intro aa hS
  revert aa
  refine qA hR rfl (fun _ hS => Yld.nilCheck hS rfl) ?_
  refine qA hR rfl (fun _ hS => Yld.fieldAddr hS rfl 2 Try.underlying110 rfl rfl info3 (by decide)) ?_
  intro aa hS
  refine sB (Bstore hS hR rfl rfl (by rfl) info3 (by rfl) pkQ (by rfl) (Nat.le_of_ble_eq_true rfl) ?_); clear hR; intro ww hR
  refine wpList_nil ?_
  refine hK80 _ _ ?_
  refine wp_seq_k ?_; intro K81 hK81
  refine wp_region_lit ?_
  revert aa
  refine qN hR ?_
  intro aa hS
  refine wpList_nil ?_
  refine hK81 _ _ ?_
  refine wp_ret ?_
  repeat first | with_reducible refine thenR ?_ | with_reducible refine blockR ?_ | with_reducible refine scopeR ?_
  refine ret1 (fn := Try.f65) (e := .ret) (.inl rfl) Try.results65 hS hR ⟨_, (.tmp rfl), ?_⟩
  try dsimp only [lay, List.set] at hR
  first
   | exact ⟨by simp [Ar.giveE, hg], Sep.arenaI (by rw [Ar.giveH_no hg]; exact hA) rfl (by rw [Ar.giveH_no hg]) (by rw [Ar.giveH_no hg]) (hR.sub (Ex.take pkQ (Ex.take pkQ (by repeat (first | with_reducible exact Ex.refl | with_reducible apply Ex.drop)))))⟩
   | (refine ⟨by simp [Ar.giveE, hg], Sep.arenaI (br := br) (n := rs.length) (f := (i : Int)) (c := cnt A.tk - 1) (rs := rs.set i (r.1, IntKind.i64.wrap (r.2.1 + 1), false, hd A.free)) (by rw [Ar.giveH_yes hg]; exact hA.give h4 hr) ?_ (by rw [Ar.giveH_yes hg]; rfl) (by rw [Ar.giveH_yes hg]; exact hgi) (hR.sub (Ex.take pkQ (Ex.take pkQ (by repeat (first | with_reducible exact Ex.refl | with_reducible apply Ex.drop)))))⟩; rw [List.length_set])
theorem Count_ok {A : Ar} {b br : Nat} {rs : List Srow} {l : List HP} {w : World} (hA : Rep A rs) (hR : Sep (blk b [.slice (some ⟨br, 0, none⟩) rs.length rs.length, .int .i64 (hd A.free), .int .i64 (cnt A.tk)] 110 :: blk br (rs.flatMap eS) 136 :: l) w) : CallR Try.prog 32 [.pointer (some ⟨b, 0, none⟩)] w (fun v w' => v = .int .i64 (cnt A.tk) ∧ Sep (blk b [.slice (some ⟨br, 0, none⟩) rs.length rs.length, .int .i64 (hd A.free), .int .i64 (cnt A.tk)] 110 :: blk br (rs.flatMap eS) 136 :: l) w') := by
 refine enter Try.func32 rfl Try.ntmps32 (Nat.le_of_ble_eq_true rfl) ?_; intro aa hS
 have hlen := hA.len
 have hpos := hA.ok.pos
 have hlt := hA.ok.len
 refine wp_seq_k ?_; intro K82 hK82
 refine wp_region_lit ?_
 revert aa
 refine qN hR ?_
 intro aa hS
 refine wpList_nil ?_
 refine hK82 _ _ ?_
 refine wp_seq_k ?_; intro K83 hK83
 refine wp_seq_k ?_; intro K84 hK84
 refine wp_region_lit ?_
 revert aa
 refine qM hR ?_
 intro aa hS
 refine sB (Bcall hS rfl Try.call59 (some_ok (hR.pk (r := blk b _ _) pkQ) (by omega)) (by decide) ?_); clear hS; intro aa ww vv hS hp
 clear hR
 obtain ⟨rfl, hR⟩ := hp
 refine sA hS hR (Yld.not hS rfl) (by decide) ?_; clear hS; intro aa hS
 refine wpList_nil ?_
 refine hK84 _ _ ?_
 refine condF hS rfl ?_
 refine wp_skip ?_
 refine hK83 _ _ ?_
 refine wp_seq_k ?_; intro K85 hK85
 refine wp_region_lit ?_
 revert aa
 refine qM hR ?_
 refine qA hR rfl (fun _ hS => Yld.nilCheck hS rfl) ?_
 refine qA hR rfl (fun _ hS => Yld.fieldAddr hS rfl 2 Try.underlying110 rfl rfl info3 (by decide)) ?_
 refine qA hR rfl (fun _ hS => Yld.load1 hS rfl Try.underlying3 rfl (Rd.blk pkQ (by rfl))) ?_
 refine qN hR ?_
 intro aa hS
 refine wpList_nil ?_
 refine hK85 _ _ ?_
 refine wp_ret ?_
 repeat first | with_reducible refine thenR ?_ | with_reducible refine blockR ?_ | with_reducible refine scopeR ?_
 refine ret1 (fn := Try.f32) (e := .ret) (.inl rfl) Try.results32 hS hR ⟨_, (.tmp rfl), ?_⟩
 exact ⟨rfl, hR.sub (Ex.take pkQ (Ex.take pkQ (by repeat (first | with_reducible exact Ex.refl | with_reducible apply Ex.drop))))⟩
set_option maxHeartbeats 1000000 in
theorem New_ok {n : Int} {l : List HP} {w : World} (hR : Sep l w) (hn : 1 ≤ n ∧ n ≤ 4096) : CallR Try.prog 47 [.int .i64 n] w (fun v w' => ∃ b, v = .tuple [.pointer (some ⟨b, 0, none⟩), .int .i64 0].toArray ∧ Sep (arena 110 136 b (Ar.new n.toNat) :: l) w') := by
 refine enter Try.func47 rfl Try.ntmps47 (Nat.le_of_ble_eq_true rfl) ?_; intro aa hS
 obtain ⟨m, hm⟩ : ∃ m : Nat, n = m := ⟨n.toNat, by omega⟩
 subst hm
 refine wp_seq_k ?_; intro K91 hK91
 refine wp_region_lit ?_
 revert aa
 refine qN hR ?_
 refine qN hR ?_
 intro aa hS
 refine wpList_nil ?_
 refine hK91 _ _ ?_
 refine wp_seq_k ?_; intro K92 hK92
 refine wp_seq_k ?_; intro K93 hK93
 refine wp_region_lit ?_
 revert aa
 refine qM hR ?_
 refine qA hR rfl (fun _ hS => Yld.lss hS rfl rfl) ?_
 refine qB (t := 7) false rfl (by exact decide_eq_false (by omega)) ?_
 refine qM hR ?_
 refine qMg hR ?_
 refine qAg hR rfl rfl rfl (fun _ hS => Yld.gtr hS rfl rfl) ?_
 refine qB (t := 10) false rfl (by exact decide_eq_false (by omega)) ?_
 refine qA hR rfl (fun _ hS => Yld.pickF hS rfl rfl) ?_
 intro aa hS
 refine wpList_nil ?_
 refine hK93 _ _ ?_
 refine condF hS rfl ?_
 refine wp_skip ?_
 refine hK92 _ _ ?_
 refine wp_seq_k ?_; intro K94 hK94
 refine wp_region_lit ?_
 revert aa
 refine qM hR ?_
 intro aa hS
 refine sB (Bmake (zc := [.int .i64 0, .int .i64 0, .bool false, .int .i64 0]) hS hR rfl rfl Try.underlying108 info136 rfl (by rfl) (by rfl) (by decide) (by omega) (by show ((32 : Nat) : Int) * _ ≤ _; omega) (by omega) (by decide) ?_); clear hS hR; intro aa ww bb13 hS hR
 rw [Int.toNat_natCast] at hS hR
 rw [zeros_flat (zc := [.int .i64 0, .int .i64 0, .bool false, .int .i64 0]) (enc := eS) ((0, 0, false, 0) : Srow) m rfl] at hR
 refine sA hS hR (Yld.build hS rfl (bld110_0 _ _ _)) (by decide) ?_; clear hS; intro aa hS
 refine sB (Bbox hS hR rfl (by rfl) (by decide) ?_); clear hS hR; intro aa ww bb15 hS hR
 revert aa
 refine qN hR ?_
 intro aa hS
 refine wpList_nil ?_
 refine hK94 _ _ ?_
 refine wp_seq_k ?_; intro K95 hK95
 refine wp_seq_k ?_; intro K96 hK96
 refine wp_region_lit ?_
 revert aa
 refine qM hR ?_
 refine qA hR rfl (fun _ hS => Yld.nilCheck hS rfl) ?_
 refine qA hR rfl (fun _ hS => Yld.fieldAddr hS rfl 0 Try.underlying110 rfl rfl info108 (by decide)) ?_
 refine qA hR rfl (fun _ hS => Yld.load1 hS rfl Try.underlying108 rfl (Rd.blk pkQ (by rfl))) ?_
 refine qA hR rfl (fun _ hS => Yld.len hS rfl Try.underlying108) ?_
 refine qM hR ?_
 intro aa hS
 refine wpList_nil ?_
 refine hK96 _ _ ?_
 refine wp_block ?_
 replace hR := hR.pk (r := blk bb13 ((List.replicate m ((0, 0, false, 0) : Srow)).flatMap eS) 136) pkQ
 refine loopI (X := Nat × List Srow) (without [5, 21, 22, 23, 24, 25, 26, 27, 28, 29, 30, 31, 32, 33, 34, 35, 36, 37, 38, 39, 40, 41, 42] _) (fun x => [(21, .int .i64 (x.1 : Int))]) (fun x => [blk bb13 (x.2.flatMap eS) 136]) _ (fun x => NewI m x.1 x.2) (fun x => m - x.1) (0, List.replicate m (0, 0, false, 0)) (NewI.zero m) (hS.le (by refine (Le.cons rfl (Le.nilapp (Le.without _ _))))) hR ?_
 clear hS hR; rintro ⟨k, rs⟩ aa ww hI hS hR; dsimp only [List.cons_append, List.nil_append] at hI hS hR
 have hk1 := hI.1
 have hk2 := hI.2.1
 refine wp_seq_k ?_; intro K98 hK98
 refine wp_region_lit ?_
 refine sA hS hR (Yld.lss hS rfl rfl) (by decide) ?_; clear hS; intro aa hS
 refine wpList_nil ?_
 refine hK98 _ _ ?_
 refine wp_seq_k ?_; intro K99 hK99
 refine hS.splitB (t := 22) rfl ?_ ?_ <;> clear hS
 ·
  intro hg hS
  have hil : k < rs.length := by omega
  have hge : rs[k] = (0, 0, false, 0) := by rw [hI.get hil, if_neg (by omega)]
  refine condT hS rfl ?_
  refine wp_skip ?_
  refine hK99 _ _ ?_
  refine wp_seq_k ?_; intro K100 hK100
  refine wp_block ?_
  refine wp_seq_k ?_; intro K101 hK101
  refine wp_region_lit ?_
  revert aa
  refine qM hR ?_
  refine qN hR ?_
  intro aa hS
  refine wpList_nil ?_
  refine hK101 _ _ ?_
  refine drawn krQ hR (Ex.of_pk (r := blk bb13 _ _) pkQ) ?_; clear hR; intro ww hR hR0
  revert aa
  refine eA 0 rfl krQ (fun _ _ _ h => h) hR0 rfl (fun _ hS => Yld.move hS rfl) ?_
  refine eA 1 rfl krQ (fun _ _ _ h => h) hR0 rfl (fun _ hS => Yld.nilCheck hS rfl) ?_
  refine eA 2 rfl krQ (fun _ _ _ h => h) hR0 rfl (fun _ hS => Yld.fieldAddr hS rfl 0 Try.underlying110 rfl rfl info108 (by decide)) ?_
  refine eA 3 rfl krQ (fun _ _ _ h => h) hR0 rfl (fun _ hS => Yld.load1 hS rfl Try.underlying108 rfl (Rd.blk pkQ (by rfl))) ?_
  refine eA 4 rfl krQ (fun _ _ _ h => h) hR0 rfl (fun _ hS => Yld.move hS rfl) ?_
  refine eA 5 rfl krQ (fun _ _ _ h => h) hR0 rfl (fun _ hS => Yld.move hS rfl) ?_
  refine eA 6 rfl krQ (fun _ _ _ h => h) hR0 rfl (fun _ hS => Yld.nilCheck hS rfl) ?_
  refine eA 7 rfl krQ (fun _ _ _ h => h) hR0 rfl (fun _ hS => Yld.fieldAddr hS rfl 0 Try.underlying110 rfl rfl info108 (by decide)) ?_
  refine eA 8 rfl krQ (fun _ _ _ h => h) hR0 rfl (fun _ hS => Yld.load1 hS rfl Try.underlying108 rfl (Rd.blk pkQ (by rfl))) ?_
  refine eA 9 rfl krQ (fun _ _ _ h => h) hR0 rfl (fun _ hS => Yld.move hS rfl) ?_
  refine eA 10 rfl krQ (fun _ _ _ h => h) hR0 rfl (fun _ hS => Yld.move hS rfl) ?_
  refine eA 11 rfl krQ (fun _ _ _ h => h) hR0 rfl (fun _ hS => Yld.move hS rfl) ?_
  intro aa hS
  refine dA 12 rfl krQ krQ krQ (fun _ _ _ h => h) hS hR0 adQ (by decide) ?_; clear hS; intro aa hS
  revert aa
  refine eA 13 rfl krQ (fun _ _ _ h => h) hR0 rfl (fun _ hS => Yld.indexSlice hS rfl rfl Try.underlying108 info136 (by omega) (by omega)) ?_
  refine eA 14 rfl krQ (fun _ _ _ h => h) hR0 rfl (fun _ hS => Yld.fieldAddr hS rfl 0 Try.underlying136 rfl rfl info116 (by decide)) ?_
  refine eA 15 rfl krQ (fun _ _ _ h => h) hR0 rfl (fun _ hS => Yld.fieldAddr hS rfl 0 Try.underlying116 rfl rfl info3 (by decide)) ?_
  intro aa hS
  refine dOne (i := 16) krQ ?_
  refine dop rfl (Bstore hS hR rfl rfl (by rfl) info3 (by rfl) pkQ (by rfl) (by have h4 : (Try.t136).size = 4 := rfl; simp only [h4, Int.toNat_natCast, List.length_singleton]; rw [flat_len eS_len]; (try rw [List.length_set]); omega) ?_); clear hR hR0; intro ww hR
  first
   | replace hR := hR.flatSet (enc := eS) (m := 4) (k := k) (j := 0) ((k : Int), 0, false, 0) eS_len (by simpa using hil) (by have h4 : (Try.t136).size = 4 := rfl; simp only [h4, Int.toNat_natCast]; omega) (Nat.le_of_ble_eq_true rfl) (by rw [hge]; rfl)
   | (replace hR := hR.flatSet (enc := eS) (m := 4) (k := k) (j := 0) ((k : Int), 0, false, (k : Int) + 1) eS_len (by simpa using hil) (by have h4 : (Try.t136).size = 4 := rfl; simp only [h4, Int.toNat_natCast]; omega) (Nat.le_of_ble_eq_true rfl) (by rw [List.getElem_set_self]; rfl); rw [List.set_set] at hR)
  refine dnext (hR.sub (by repeat (first | with_reducible exact Ex.refl | with_reducible apply Ex.drop))) ?_; intro hR0
  revert aa
  refine eA 17 rfl krQ (fun _ _ _ h => h) hR0 rfl (fun _ hS => Yld.indexSlice hS rfl rfl Try.underlying108 info136 (by omega) (by omega)) ?_
  refine eA 18 rfl krQ (fun _ _ _ h => h) hR0 rfl (fun _ hS => Yld.fieldAddr hS rfl 3 Try.underlying136 rfl rfl info3 (by decide)) ?_
  intro aa hS
  refine dOne (i := 19) krQ ?_
  refine dop rfl (Bstore hS hR rfl rfl (by rfl) info3 (by rfl) pkQ (by rfl) (by have h4 : (Try.t136).size = 4 := rfl; simp only [h4, Int.toNat_natCast, List.length_singleton]; rw [flat_len eS_len]; (try rw [List.length_set]); omega) ?_); clear hR hR0; intro ww hR
  first
   | replace hR := hR.flatSet (enc := eS) (m := 4) (k := k) (j := 3) (0, 0, false, (k : Int) + 1) eS_len (by simpa using hil) (by have h4 : (Try.t136).size = 4 := rfl; simp only [h4, Int.toNat_natCast]; omega) (Nat.le_of_ble_eq_true rfl) (by rw [hge]; rfl)
   | (replace hR := hR.flatSet (enc := eS) (m := 4) (k := k) (j := 3) ((k : Int), 0, false, (k : Int) + 1) eS_len (by simpa using hil) (by have h4 : (Try.t136).size = 4 := rfl; simp only [h4, Int.toNat_natCast]; omega) (Nat.le_of_ble_eq_true rfl) (by rw [List.getElem_set_self]; rfl); rw [List.set_set] at hR)
  refine dnext (hR.sub (by repeat (first | with_reducible exact Ex.refl | with_reducible apply Ex.drop))) ?_; intro hR0
  refine wpAnyH_done krQ ?_ _; clear hR0
  refine hK100 _ _ ?_
  refine wp_region_lit ?_
  refine sA hS hR adQ (by decide) ?_; clear hS; intro aa hS
  revert aa
  refine qM hR ?_
  intro aa hS
  refine wpList_nil ?_
  refine ⟨(k + 1, rs.set k ((k : Int), 0, false, (k : Int) + 1)), ?_, ?_, hS.le (Le.cons rfl (Le.nilapp (by repeat (first | with_reducible exact Le.refl _ | refine Le.skip (lk_without rfl) ?_ | refine Le_inner rfl ?_)))), hR.sub (Ex.take pkQ (Ex.nilapp exQ))⟩
  ·
   exact hI.step (by omega)
  ·
   dsimp only; omega
 ·
  intro hg hS
  obtain rfl : m = k := by omega
  refine condF hS rfl ?_
  refine wp_exit ?_
  refine hK95 _ _ ?_
  refine wp_seq_k ?_; intro K102 hK102
  refine wp_region_lit ?_
  revert aa
  refine qM hR ?_
  refine qA hR rfl (fun _ hS => Yld.nilCheck hS rfl) ?_
  refine qA hR rfl (fun _ hS => Yld.fieldAddr hS rfl 0 Try.underlying110 rfl rfl info108 (by decide)) ?_
  refine qA hR rfl (fun _ hS => Yld.load1 hS rfl Try.underlying108 rfl (Rd.blk pkQ (by rfl))) ?_
  refine qM hR ?_
  intro aa hS
  refine sA hS hR suQ (by decide) ?_; clear hS; intro aa hS
  revert aa
  refine qA hR rfl (fun _ hS => Yld.indexSlice hS rfl rfl Try.underlying108 info136 (by omega) (by omega)) ?_
  refine qA hR rfl (fun _ hS => Yld.fieldAddr hS rfl 3 Try.underlying136 rfl rfl info3 (by decide)) ?_
  intro aa hS
  refine sB (Bstore hS hR rfl rfl (by rfl) info3 (by rfl) pkQ (by rfl) (by have h4 : (Try.t136).size = 4 := rfl; simp only [h4, List.length_singleton]; rw [flat_len eS_len]; omega) ?_); clear hR; intro ww hR
  replace hR := hR.flatSet (enc := eS) (m := 4) (k := m - 1) (j := 3) (((m - 1 : Nat) : Int), 0, false, -1) eS_len (by omega) (by have h4 : (Try.t136).size = 4 := rfl; simp only [h4]; omega) (Nat.le_of_ble_eq_true rfl) (by rw [hI.get (by omega), if_pos (by omega)]; rfl)
  refine wpList_nil ?_
  refine hK102 _ _ ?_
  refine wp_seq_k ?_; intro K103 hK103
  refine wp_region_lit ?_
  revert aa
  refine qM hR ?_
  refine qN hR ?_
  refine qN hR ?_
  intro aa hS
  refine wpList_nil ?_
  refine hK103 _ _ ?_
  refine wp_ret ?_
  repeat first | with_reducible refine thenR ?_ | with_reducible refine blockR ?_ | with_reducible refine scopeR ?_
  refine retN (fn := Try.f47) (e := .ret) (.inl rfl) Try.results47 hS hR ⟨_, .cons (.tmp rfl) (.cons (.tmp rfl) (.nil)), rfl, ?_⟩
  refine ⟨_, rfl, Sep.arenaI (br := bb13) (n := m) (f := 0) (c := 0) (rs := rs.set (m - 1) (((m - 1 : Nat) : Int), 0, false, -1)) (by rw [Int.toNat_natCast]; exact hI.done (by omega) (by omega)) (by rw [List.length_set]; omega) (by rw [Int.toNat_natCast]; exact new_first (by omega)) (by rw [Int.toNat_natCast]; exact new_cnt) (hR.sub (Ex.take pkQ (Ex.take pkQ (by repeat (first | with_reducible exact Ex.refl | with_reducible apply Ex.drop)))))⟩
end Go.Proofs.Ytkhdejjompbklaa.Sx
