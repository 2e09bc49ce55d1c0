/-
 
-/
import Derived.Test.YtkhdejjompbklaaGreatOBkA
import Derived.Test.YtkhdejjompbklaaGreatOPb
namespace Go.Proofs.YtkhdejjompbklaaGreat.Sx
open Go
set_option maxRecDepth 20000
set_option linter.unusedVariables false
set_option linter.unusedSimpArgs false
theorem info4 : Tryz.prog.info? 4 = some Tryz.t4 := by kernel_rfl
theorem info120 : Tryz.prog.info? 120 = some Tryz.t120 := by kernel_rfl
theorem info146 : Tryz.prog.info? 146 = some Tryz.t146 := by kernel_rfl
theorem info174 : Tryz.prog.info? 174 = some Tryz.t174 := by kernel_rfl
theorem bld120_  (w : World) : (Instr.build 120 [].toArray).run Tryz.prog w = .ok (.agg [.int .i64 0, .int .i64 0].toArray) w := by kernel_rfl
theorem bld148_0 (x0_a : Option Addr) (x0_n x0_c : Nat) (w : World) : (Instr.build 148 [(0, .slice x0_a x0_n x0_c)].toArray).run Tryz.prog w = .ok (.agg [.slice x0_a x0_n x0_c, .int .i64 0, .int .i64 0].toArray) w := by kernel_rfl
theorem eql120 (o1 o2 : Operand) (x_0 : Int) (x_1 : Int) (y_0 : Int) (y_1 : Int) (w : World) : (do eqGuard .eql 120 o1 o2 (.agg [.int .i64 x_0, .int .i64 x_1].toArray) (.agg [.int .i64 y_0, .int .i64 y_1].toArray); binOp .eql 120 (.agg [.int .i64 x_0, .int .i64 x_1].toArray) (.agg [.int .i64 y_0, .int .i64 y_1].toArray) : Sem Value).run Tryz.prog w = .ok (.bool (decide (x_0 = y_0 ∧ x_1 = y_1))) w := by
 by_cases h0 : x_0 = y_0
 ·
  skip
  by_cases h1 : x_1 = y_1
  ·
   simp [go_sem, h0, h1]
  ·
   simp [go_sem, h0, h1]
 ·
  simp [go_sem, h0]
theorem some_ok {b n : Nat} {q : Option Addr} {x y : Value} {l : List HP} {w : World} (hR : Sep (blk b [.slice q n n, x, y] 148 :: l) w) (hn : 0 < n) : CallR Tryz.prog 91 [.pointer (some ⟨b, 0, none⟩)] w (fun v w' => v = .bool true ∧ Sep (blk b [.slice q n n, x, y] 148 :: l) w') := by
 refine enter Tryz.func91 rfl Tryz.ntmps91 (Nat.le_of_ble_eq_true rfl) ?_; intro aa hS
 refine wp_seq_k ?_; intro K103 hK103
 refine wp_region_lit ?_
 revert aa
 refine qN hR ?_
 intro aa hS
 refine wpList_nil ?_
 refine hK103 _ _ ?_
 refine wp_seq_k ?_; intro K104 hK104
 refine wp_region_lit ?_
 revert aa
 refine qM hR ?_
 refine qA hR rfl (fun _ hS => Yld.neqNil hS rfl rfl Tryz.underlying52) ?_
 refine qB (t := 4) true rfl (by simp) ?_
 refine qM hR ?_
 refine qMg hR ?_
 refine qAg hR rfl rfl rfl (fun _ hS => Yld.nilCheck hS rfl) ?_
 refine qAg hR rfl rfl rfl (fun _ hS => Yld.fieldAddr hS rfl 0 Tryz.underlying148 rfl rfl info146 (by decide)) ?_
 refine qAg hR rfl rfl rfl (fun _ hS => Yld.load1 hS rfl Tryz.underlying146 rfl (Rd.blk pkQ (by rfl))) ?_
 refine qAg hR rfl rfl rfl (fun _ hS => Yld.len hS rfl Tryz.underlying146) ?_
 refine qAg hR rfl rfl rfl (fun _ hS => Yld.gtr hS rfl rfl) ?_
 refine qB (t := 11) true rfl (by simp; omega) ?_
 refine qA hR rfl (fun _ hS => Yld.pickT hS rfl rfl) ?_
 refine qN hR ?_
 intro aa hS
 refine wpList_nil ?_
 refine hK104 _ _ ?_
 refine wp_ret ?_
 repeat first | with_reducible refine thenR ?_ | with_reducible refine blockR ?_ | with_reducible refine scopeR ?_
 refine ret1 (fn := Tryz.f91) (e := .ret) (.inl rfl) Tryz.results91 hS hR ⟨_, (.tmp rfl), ?_⟩
 exact ⟨rfl, (hR.sub (by repeat (first | with_reducible exact Ex.refl | with_reducible apply Ex.drop)))⟩
theorem At_ok {A : Ar} {b br : Nat} {rs : List Srow} {l : List HP} {w : World} (hA : Rep A rs) {s : Int} (hR : Sep (blk b [.slice (some ⟨br, 0, none⟩) rs.length rs.length, .int .i64 (hd A.free), .int .i64 (cnt A.tk)] 148 :: blk br (rs.flatMap eS) 174 :: l) w) : CallR Tryz.prog 74 [.pointer (some ⟨b, 0, none⟩), .int .i64 s] w (fun v w' => v = atV A s ∧ Sep (blk b [.slice (some ⟨br, 0, none⟩) rs.length rs.length, .int .i64 (hd A.free), .int .i64 (cnt A.tk)] 148 :: blk br (rs.flatMap eS) 174 :: l) w') := by
 refine enter Tryz.func74 rfl Tryz.ntmps74 (Nat.le_of_ble_eq_true rfl) ?_; intro aa hS
 have hlen := hA.len
 have hpos := hA.ok.pos
 have hlt := hA.ok.len
 refine wp_seq_k ?_; intro K105 hK105
 refine wp_region_lit ?_
 refine sB (Balloc hS hR info120 (by rfl) (by rfl) (by decide) ?_); clear hS hR; intro aa ww bb4 hS hR
 revert aa
 refine qN hR ?_
 intro aa hS
 refine wpList_nil ?_
 refine hK105 _ _ ?_
 refine wp_seq_k ?_; intro K106 hK106
 refine wp_seq_k ?_; intro K107 hK107
 refine wp_region_lit ?_
 revert aa
 refine qM hR ?_
 intro aa hS
 refine sB (Bcall hS rfl Tryz.call91 (some_ok (hR.pk (r := blk b _ _) pkQ) (by omega)) (by decide) ?_); clear hS; intro aa ww vv hS hp
 clear hR
 obtain ⟨rfl, hR⟩ := hp
 revert aa
 refine qA hR rfl (fun _ hS => Yld.not hS rfl) ?_
 refine qM hR ?_
 refine qMg hR ?_
 refine qAg hR rfl rfl rfl (fun _ hS => Yld.lss hS rfl rfl) ?_
 refine qA hR rfl (fun _ hS => Yld.pickF hS rfl rfl) ?_
 refine qM hR ?_
 intro aa hS
 refine hS.splitB (t := 13) rfl ?_ ?_ <;> clear hS
 ·
  intro hg hS
  revert aa
  refine qZ ?_
  refine qZ ?_
  refine qZ ?_
  refine qZ ?_
  refine qZ ?_
  refine qZ ?_
  refine qZ ?_
  refine qA hR rfl (fun _ hS => Yld.pickT hS rfl rfl) ?_
  refine qM hR ?_
  refine qZ ?_
  refine qZ ?_
  refine qZ ?_
  refine qZ ?_
  refine qZ ?_
  refine qZ ?_
  refine qZ ?_
  refine qZ ?_
  refine qZ ?_
  refine qA hR rfl (fun _ hS => Yld.pickT hS rfl rfl) ?_
  intro aa hS
  refine wpList_nil ?_
  refine hK107 _ _ ?_
  refine condT hS rfl ?_
  refine wp_seq_k ?_; intro K108 hK108
  refine wp_region_lit ?_
  refine sA hS hR (Yld.build hS rfl (bld120_)) (by decide) ?_; clear hS; intro aa hS
  refine sB (Bstore hS hR rfl rfl (by rfl) info120 (by rfl) pkQ (by rfl) (Nat.le_of_ble_eq_true rfl) ?_); clear hR; intro ww hR
  revert aa
  refine qN hR ?_
  intro aa hS
  refine wpList_nil ?_
  refine hK108 _ _ ?_
  refine wp_ret ?_
  repeat first | with_reducible refine thenR ?_ | with_reducible refine blockR ?_ | with_reducible refine scopeR ?_
  refine retN (fn := Tryz.f74) (e := .ret) (.inl rfl) Tryz.results74 hS hR ⟨_, .cons (.agg rfl Tryz.underlying120 rfl info120 (Rds.cons (Rd.blk pkQ (by rfl)) (Rds.cons (Rd.blk pkQ (by rfl)) (Rds.nil))) (by rfl)) (.cons (.tmp rfl) (.nil)), rfl, ?_⟩
  refine ⟨?_, (hR.sub (by repeat (first | with_reducible exact Ex.refl | with_reducible apply Ex.drop)))⟩
  first | (rw [atV_none (Ar.at_out hA (by omega))]) | (rw [atV_none (Ar.at_no hA hr (by simpa using ‹_›))]) | (rw [atV_some (Ar.at_some hA hr (by simpa using ‹_›)), hrow.1])
 ·
  intro hg hS
  revert aa
  refine qMg hR ?_
  refine qMg hR ?_
  refine qAg hR rfl rfl rfl (fun _ hS => Yld.nilCheck hS rfl) ?_
  refine qAg hR rfl rfl rfl (fun _ hS => Yld.fieldAddr hS rfl 0 Tryz.underlying148 rfl rfl info146 (by decide)) ?_
  refine qAg hR rfl rfl rfl (fun _ hS => Yld.load1 hS rfl Tryz.underlying146 rfl (Rd.blk pkQ (by rfl))) ?_
  refine qAg hR rfl rfl rfl (fun _ hS => Yld.len hS rfl Tryz.underlying146) ?_
  refine qAg hR rfl rfl rfl (fun _ hS => Yld.geq hS rfl rfl) ?_
  refine qA hR rfl (fun _ hS => Yld.pickF hS rfl rfl) ?_
  refine qM hR ?_
  intro aa hS
  refine hS.splitB (t := 22) rfl ?_ ?_ <;> clear hS
  ·
   intro hg hS
   revert aa
   refine qZ ?_
   refine qZ ?_
   refine qZ ?_
   refine qZ ?_
   refine qZ ?_
   refine qZ ?_
   refine qZ ?_
   refine qZ ?_
   refine qZ ?_
   refine qA hR rfl (fun _ hS => Yld.pickT hS rfl rfl) ?_
   intro aa hS
   refine wpList_nil ?_
   refine hK107 _ _ ?_
   refine condT hS rfl ?_
   refine wp_seq_k ?_; intro K109 hK109
   refine wp_region_lit ?_
   refine sA hS hR (Yld.build hS rfl (bld120_)) (by decide) ?_; clear hS; intro aa hS
   refine sB (Bstore hS hR rfl rfl (by rfl) info120 (by rfl) pkQ (by rfl) (Nat.le_of_ble_eq_true rfl) ?_); clear hR; intro ww hR
   revert aa
   refine qN hR ?_
   intro aa hS
   refine wpList_nil ?_
   refine hK109 _ _ ?_
   refine wp_ret ?_
   repeat first | with_reducible refine thenR ?_ | with_reducible refine blockR ?_ | with_reducible refine scopeR ?_
   refine retN (fn := Tryz.f74) (e := .ret) (.inl rfl) Tryz.results74 hS hR ⟨_, .cons (.agg rfl Tryz.underlying120 rfl info120 (Rds.cons (Rd.blk pkQ (by rfl)) (Rds.cons (Rd.blk pkQ (by rfl)) (Rds.nil))) (by rfl)) (.cons (.tmp rfl) (.nil)), rfl, ?_⟩
   refine ⟨?_, (hR.sub (by repeat (first | with_reducible exact Ex.refl | with_reducible apply Ex.drop)))⟩
   first | (rw [atV_none (Ar.at_out hA (by omega))]) | (rw [atV_none (Ar.at_no hA hr (by simpa using ‹_›))]) | (rw [atV_some (Ar.at_some hA hr (by simpa using ‹_›)), hrow.1])
  ·
   intro hg hS
   obtain ⟨i, hi⟩ : ∃ i : Nat, s = i := ⟨s.toNat, by omega⟩
   subst hi
   obtain ⟨r, hr⟩ : ∃ r, rs[i]? = some r := ⟨rs[i]'(by omega), by simp⟩
   have hge : rs[i]'(by omega) = r := by simpa using (List.getElem?_eq_some_iff.1 hr).2
   have hrow := hA.row i r hr
   revert aa
   refine qMg hR ?_
   refine qAg hR rfl rfl rfl (fun _ hS => Yld.nilCheck hS rfl) ?_
   refine qAg hR rfl rfl rfl (fun _ hS => Yld.fieldAddr hS rfl 0 Tryz.underlying148 rfl rfl info146 (by decide)) ?_
   refine qAg hR rfl rfl rfl (fun _ hS => Yld.load1 hS rfl Tryz.underlying146 rfl (Rd.blk pkQ (by rfl))) ?_
   refine qMg hR ?_
   refine qAg hR rfl rfl rfl (fun _ hS => Yld.indexSlice hS rfl rfl Tryz.underlying146 info174 (by omega) (by omega)) ?_
   refine qAg hR rfl rfl rfl (fun _ hS => Yld.fieldAddr hS rfl 2 Tryz.underlying174 rfl rfl info4 (by decide)) ?_
   refine qAg hR rfl rfl rfl (fun _ hS => Yld.load1 hS rfl Tryz.underlying4 rfl ((Rd.flat (j := 2) (v := .bool r.2.2.1) pkQ eS_len (show i < rs.length by omega) (by rw [hge]; rfl)).at (by show 0 + i * 4 + 2 = _; omega))) ?_
   refine qAg hR rfl rfl rfl (fun _ hS => Yld.not hS rfl) ?_
   refine qA hR rfl (fun _ hS => Yld.pickF hS rfl rfl) ?_
   intro aa hS
   refine wpList_nil ?_
   refine hK107 _ _ ?_
   refine hS.splitB (t := 32) rfl ?_ ?_ <;> clear hS
   ·
    intro hg hS
    refine condT hS rfl ?_
    refine wp_seq_k ?_; intro K110 hK110
    refine wp_region_lit ?_
    refine sA hS hR (Yld.build hS rfl (bld120_)) (by decide) ?_; clear hS; intro aa hS
    refine sB (Bstore hS hR rfl rfl (by rfl) info120 (by rfl) pkQ (by rfl) (Nat.le_of_ble_eq_true rfl) ?_); clear hR; intro ww hR
    revert aa
    refine qN hR ?_
    intro aa hS
    refine wpList_nil ?_
    refine hK110 _ _ ?_
    refine wp_ret ?_
    repeat first | with_reducible refine thenR ?_ | with_reducible refine blockR ?_ | with_reducible refine scopeR ?_
    refine retN (fn := Tryz.f74) (e := .ret) (.inl rfl) Tryz.results74 hS hR ⟨_, .cons (.agg rfl Tryz.underlying120 rfl info120 (Rds.cons (Rd.blk pkQ (by rfl)) (Rds.cons (Rd.blk pkQ (by rfl)) (Rds.nil))) (by rfl)) (.cons (.tmp rfl) (.nil)), rfl, ?_⟩
    refine ⟨?_, (hR.sub (by repeat (first | with_reducible exact Ex.refl | with_reducible apply Ex.drop)))⟩
    first | (rw [atV_none (Ar.at_out hA (by omega))]) | (rw [atV_none (Ar.at_no hA hr (by simpa using ‹_›))]) | (rw [atV_some (Ar.at_some hA hr (by simpa using ‹_›)), hrow.1])
   ·
    intro hg hS
    refine condF hS rfl ?_
    refine wp_skip ?_
    refine hK106 _ _ ?_
    refine wp_seq_k ?_; intro K111 hK111
    refine wp_region_lit ?_
    revert aa
    refine qM hR ?_
    refine qA hR rfl (fun _ hS => Yld.nilCheck hS rfl) ?_
    refine qA hR rfl (fun _ hS => Yld.fieldAddr hS rfl 0 Tryz.underlying148 rfl rfl info146 (by decide)) ?_
    refine qA hR rfl (fun _ hS => Yld.load1 hS rfl Tryz.underlying146 rfl (Rd.blk pkQ (by rfl))) ?_
    refine qM hR ?_
    refine qA hR rfl (fun _ hS => Yld.indexSlice hS rfl rfl Tryz.underlying146 info174 (by omega) (by omega)) ?_
    refine qA hR rfl (fun _ hS => Yld.fieldAddr hS rfl 0 Tryz.underlying174 rfl rfl info120 (by decide)) ?_
    refine qA hR rfl (fun _ hS => Yld.loadAgg (vs := [.int .i64 r.1, .int .i64 r.2.1]) hS rfl Tryz.underlying120 rfl info120 (Rds.at (Rds.part (j := 0) (Rds.flat (rest := []) (enc := eS) (m := 4) (xs := rs) (by simpa using pkQ) eS_len (show i < rs.length by omega)) (by rw [hge]; rfl)) (by show 0 + i * 4 + 0 = _; omega)) (by rfl)) ?_
    intro aa hS
    refine sB (Bstore hS hR rfl rfl (by rfl) info120 (by rfl) pkQ (by rfl) (Nat.le_of_ble_eq_true rfl) ?_); clear hR; intro ww hR
    revert aa
    refine qN hR ?_
    intro aa hS
    refine wpList_nil ?_
    refine hK111 _ _ ?_
    refine wp_ret ?_
    repeat first | with_reducible refine thenR ?_ | with_reducible refine blockR ?_ | with_reducible refine scopeR ?_
    refine retN (fn := Tryz.f74) (e := .ret) (.inl rfl) Tryz.results74 hS hR ⟨_, .cons (.agg rfl Tryz.underlying120 rfl info120 (Rds.cons (Rd.blk pkQ (by rfl)) (Rds.cons (Rd.blk pkQ (by rfl)) (Rds.nil))) (by rfl)) (.cons (.tmp rfl) (.nil)), rfl, ?_⟩
    refine ⟨?_, (hR.sub (by repeat (first | with_reducible exact Ex.refl | with_reducible apply Ex.drop)))⟩
    first | (rw [atV_none (Ar.at_out hA (by omega))]) | (rw [atV_none (Ar.at_no hA hr (by simpa using ‹_›))]) | (rw [atV_some (Ar.at_some hA hr (by simpa using ‹_›)), hrow.1])
theorem Live_ok {A : Ar} {b br : Nat} {rs : List Srow} {l : List HP} {w : World} (hA : Rep A rs) {s u : Int} (hR : Sep (blk b [.slice (some ⟨br, 0, none⟩) rs.length rs.length, .int .i64 (hd A.free), .int .i64 (cnt A.tk)] 148 :: blk br (rs.flatMap eS) 174 :: l) w) : CallR Tryz.prog 126 [.pointer (some ⟨b, 0, none⟩), .agg [.int .i64 s, .int .i64 u].toArray] w (fun v w' => v = .bool (decide (A.at s = some u)) ∧ Sep (blk b [.slice (some ⟨br, 0, none⟩) rs.length rs.length, .int .i64 (hd A.free), .int .i64 (cnt A.tk)] 148 :: blk br (rs.flatMap eS) 174 :: l) w') := by
 refine enter Tryz.func126 rfl Tryz.ntmps126 (Nat.le_of_ble_eq_true rfl) ?_; intro aa hS
 refine wp_seq_k ?_; intro K112 hK112
 refine wp_region_lit ?_
 refine sB (Bbox hS hR rfl (by rfl) (by decide) ?_); clear hS hR; intro aa ww bb3 hS hR
 revert aa
 refine qN hR ?_
 intro aa hS
 refine wpList_nil ?_
 refine hK112 _ _ ?_
 refine wp_seq_k ?_; intro K113 hK113
 refine wp_region_lit ?_
 revert aa
 refine qM hR ?_
 refine qA hR rfl (fun _ hS => Yld.fieldAddr hS rfl 0 Tryz.underlying120 rfl rfl info3 (by decide)) ?_
 refine qA hR rfl (fun _ hS => Yld.load1 hS rfl Tryz.underlying3 rfl (Rd.blk pkQ (by rfl))) ?_
 intro aa hS
 refine sB (Bcall hS rfl Tryz.call74 (At_ok hA ((hR.pk (r := blk br _ 174) pkQ).pk (r := blk b _ 148) pkQ)) (by decide) ?_); clear hS; intro aa ww vv hS hp
 clear hR
 obtain ⟨rfl, hR⟩ := hp
 unfold atV at hS
 revert aa
 refine qM hR ?_
 refine qX hR ?_
 refine qX hR ?_
 intro aa hS
 refine sB (Balloc hS hR info120 (by rfl) (by rfl) (by decide) ?_); clear hS hR; intro aa ww bb5 hS hR
 refine sB (Bstore hS hR rfl rfl (by rfl) info120 (by rfl) pkQ (by rfl) (Nat.le_of_ble_eq_true rfl) ?_); clear hR; intro ww hR
 revert aa
 refine qN hR ?_
 intro aa hS
 refine wpList_nil ?_
 refine hK113 _ _ ?_
 refine wp_seq_k ?_; intro K114 hK114
 refine wp_region_lit ?_
 revert aa
 refine qM hR ?_
 refine qM hR ?_
 intro aa hS
 refine hS.splitB (t := 15) rfl ?_ ?_ <;> clear hS
 ·
  intro hg hS
  revert aa
  refine qAg hR rfl rfl rfl (fun _ hS => Yld.loadAgg hS rfl Tryz.underlying120 rfl info120 (Rds.cons (Rd.blk pkQ (by rfl)) (Rds.cons (Rd.blk pkQ (by rfl)) (Rds.nil))) (by rfl)) ?_
  refine qAg hR rfl rfl rfl (fun _ hS => Yld.loadAgg hS rfl Tryz.underlying120 rfl info120 (Rds.cons (Rd.blk pkQ (by rfl)) (Rds.cons (Rd.blk pkQ (by rfl)) (Rds.nil))) (by rfl)) ?_
  refine qAg hR rfl rfl rfl (fun _ hS => Yld.binRun hS rfl rfl (eql120 _ _ _ _ _ _)) ?_
  refine qA hR rfl (fun _ hS => Yld.pickT hS rfl rfl) ?_
  refine qN hR ?_
  intro aa hS
  refine wpList_nil ?_
  refine hK114 _ _ ?_
  refine wp_ret ?_
  repeat first | with_reducible refine thenR ?_ | with_reducible refine blockR ?_ | with_reducible refine scopeR ?_
  refine ret1 (fn := Tryz.f126) (e := .ret) (.inl rfl) Tryz.results126 hS hR ⟨_, (.tmp rfl), ?_⟩
  refine ⟨?_, (hR.sub (Ex.take pkQ (Ex.take pkQ (by repeat (first | with_reducible exact Ex.refl | with_reducible apply Ex.drop)))))⟩
  first | exact live_yes hg | exact live_no hg
 ·
  intro hg hS
  revert aa
  refine qZ ?_
  refine qZ ?_
  refine qZ ?_
  refine qA hR rfl (fun _ hS => Yld.pickF hS rfl rfl) ?_
  refine qN hR ?_
  intro aa hS
  refine wpList_nil ?_
  refine hK114 _ _ ?_
  refine wp_ret ?_
  repeat first | with_reducible refine thenR ?_ | with_reducible refine blockR ?_ | with_reducible refine scopeR ?_
  refine ret1 (fn := Tryz.f126) (e := .ret) (.inl rfl) Tryz.results126 hS hR ⟨_, (.tmp rfl), ?_⟩
  refine ⟨?_, (hR.sub (Ex.take pkQ (Ex.take pkQ (by repeat (first | with_reducible exact Ex.refl | with_reducible apply Ex.drop)))))⟩
  first | exact live_yes hg | exact live_no hg
theorem Take_ok {A : Ar} {b br : Nat} {rs : List Srow} {l : List HP} {w : World} (hA : Rep A rs) (hR : Sep (blk b [.slice (some ⟨br, 0, none⟩) rs.length rs.length, .int .i64 (hd A.free), .int .i64 (cnt A.tk)] 148 :: blk br (rs.flatMap eS) 174 :: l) w) : CallR Tryz.prog 97 [.pointer (some ⟨b, 0, none⟩)] w (fun v w' => v = .tuple [.agg [.int .i64 A.top.1, .int .i64 A.top.2.1].toArray, .int .i64 A.top.2.2].toArray ∧ Sep (arena 148 174 b A.take :: l) w') := by
 refine enter Tryz.func97 rfl Tryz.ntmps97 (Nat.le_of_ble_eq_true rfl) ?_; intro aa hS
 have hlen := hA.len
 have hpos := hA.ok.pos
 have hlt := hA.ok.len
 refine wp_seq_k ?_; intro K115 hK115
 refine wp_region_lit ?_
 refine sB (Balloc hS hR info120 (by rfl) (by rfl) (by decide) ?_); clear hS hR; intro aa ww bb2 hS hR
 revert aa
 refine qN hR ?_
 intro aa hS
 refine wpList_nil ?_
 refine hK115 _ _ ?_
 refine wp_seq_k ?_; intro K116 hK116
 refine wp_block ?_
 refine wp_seq_k ?_; intro K117 hK117
 refine wp_region_lit ?_
 revert aa
 refine qM hR ?_
 intro aa hS
 refine sB (Bcall hS rfl Tryz.call91 (some_ok (hR.pk (r := blk b _ _) pkQ) (by omega)) (by decide) ?_); clear hS; intro aa ww vv hS hp
 clear hR
 obtain ⟨rfl, hR⟩ := hp
 revert aa
 refine qA hR rfl (fun _ hS => Yld.not hS rfl) ?_
 refine qN hR ?_
 intro aa hS
 refine wpList_nil ?_
 refine hK117 _ _ ?_
 refine condF hS rfl ?_
 refine wp_seq_k ?_; intro K118 hK118
 refine wp_region_lit ?_
 revert aa
 refine qM hR ?_
 refine qA hR rfl (fun _ hS => Yld.nilCheck hS rfl) ?_
 refine qA hR rfl (fun _ hS => Yld.fieldAddr hS rfl 1 Tryz.underlying148 rfl rfl info3 (by decide)) ?_
 refine qA hR rfl (fun _ hS => Yld.load1 hS rfl Tryz.underlying3 rfl (Rd.blk pkQ (by rfl))) ?_
 refine qA hR rfl (fun _ hS => Yld.lss hS rfl rfl) ?_
 refine qN hR ?_
 intro aa hS
 refine wpList_nil ?_
 refine hK118 _ _ ?_
 refine hS.splitB (t := 10) rfl ?_ ?_ <;> clear hS
 ·
  intro hg hS
  have hf := hd_neg hg
  refine condT hS rfl ?_
  refine wp_seq_k ?_; intro K119 hK119
  refine wp_region_lit ?_
  refine sA hS hR (Yld.build hS rfl (bld120_)) (by decide) ?_; clear hS; intro aa hS
  refine sB (Bstore hS hR rfl rfl (by rfl) info120 (by rfl) pkQ (by rfl) (Nat.le_of_ble_eq_true rfl) ?_); clear hR; intro ww hR
  revert aa
  refine qN hR ?_
  intro aa hS
  refine wpList_nil ?_
  refine hK119 _ _ ?_
  refine wp_ret ?_
  repeat first | with_reducible refine thenR ?_ | with_reducible refine blockR ?_ | with_reducible refine scopeR ?_
  refine retN (fn := Tryz.f97) (e := .ret) (.inl rfl) Tryz.results97 hS hR ⟨_, .cons (.agg rfl Tryz.underlying120 rfl info120 (Rds.cons (Rd.blk pkQ (by rfl)) (Rds.cons (Rd.blk pkQ (by rfl)) (Rds.nil))) (by rfl)) (.cons (.tmp rfl) (.nil)), rfl, ?_⟩
  try dsimp only [lay, List.set] at hR
  first
   | exact ⟨by rw [Ar.top_nil hf], Sep.arenaI (by rw [Ar.take_nil hf]; exact hA) rfl (by rw [Ar.take_nil hf]) (by rw [Ar.take_nil hf]) (hR.sub (Ex.take pkQ (Ex.take pkQ (by repeat (first | with_reducible exact Ex.refl | with_reducible apply Ex.drop)))))⟩
   | (refine ⟨by rw [Ar.top_cons hf h2, h1], Sep.arenaI (hA.take hf hr) ?_ (hA.take_fst hf h5) (hA.take_cnt hf) (hR.sub (Ex.take pkQ (Ex.take pkQ (by repeat (first | with_reducible exact Ex.refl | with_reducible apply Ex.drop)))))⟩; rw [List.length_set])
 ·
  intro hg hS
  obtain ⟨i, fs, hf⟩ := hd_pos hg
  obtain ⟨r, hr, h1, h2, h3, h4, h5⟩ := hA.first hf
  have hhd : hd A.free = (i : Int) := by rw [hf]; rfl
  rw [hhd] at hR
  have hil := (List.getElem?_eq_some_iff.1 hr).1
  have hge : rs[i] = r := (List.getElem?_eq_some_iff.1 hr).2
  have hcb := cnt_bd A.tk
  refine condF hS rfl ?_
  refine wp_skip ?_
  refine hK116 _ _ ?_
  refine wp_seq_k ?_; intro K120 hK120
  refine drawn krQ hR Ex.refl ?_; clear hR; intro ww hR hR0
  revert aa
  refine eA 0 rfl krQ (fun _ _ _ h => h) hR0 rfl (fun _ hS => Yld.move hS rfl) ?_
  refine eA 1 rfl krQ (fun _ _ _ h => h) hR0 rfl (fun _ hS => Yld.nilCheck hS rfl) ?_
  refine eA 2 rfl krQ (fun _ _ _ h => h) hR0 rfl (fun _ hS => Yld.fieldAddr hS rfl 0 Tryz.underlying148 rfl rfl info146 (by decide)) ?_
  refine eA 3 rfl krQ (fun _ _ _ h => h) hR0 rfl (fun _ hS => Yld.load1 hS rfl Tryz.underlying146 rfl (Rd.blk pkQ (by rfl))) ?_
  refine eA 4 rfl krQ (fun _ _ _ h => h) hR0 rfl (fun _ hS => Yld.move hS rfl) ?_
  refine eA 5 rfl krQ (fun _ _ _ h => h) hR0 rfl (fun _ hS => Yld.nilCheck hS rfl) ?_
  refine eA 6 rfl krQ (fun _ _ _ h => h) hR0 rfl (fun _ hS => Yld.fieldAddr hS rfl 1 Tryz.underlying148 rfl rfl info3 (by decide)) ?_
  refine eA 7 rfl krQ (fun _ _ _ h => h) hR0 rfl (fun _ hS => Yld.load1 hS rfl Tryz.underlying3 rfl (Rd.blk pkQ (by rfl))) ?_
  refine eA 8 rfl krQ (fun _ _ _ h => h) hR0 rfl (fun _ hS => Yld.indexSlice hS rfl rfl Tryz.underlying146 info174 (by omega) (by omega)) ?_
  refine eA 9 rfl krQ (fun _ _ _ h => h) hR0 rfl (fun _ hS => Yld.assign hS rfl) ?_
  intro aa hS
  refine wpAnyH_done krQ ?_ _; clear hR0
  refine hK120 _ _ ?_
  refine wp_seq_k ?_; intro K121 hK121
  refine wp_region_lit ?_
  revert aa
  refine qM hR ?_
  refine qM hR ?_
  refine qM hR ?_
  refine qA hR rfl (fun _ hS => Yld.nilCheck hS rfl) ?_
  refine qA hR rfl (fun _ hS => Yld.fieldAddr hS rfl 3 Tryz.underlying174 rfl rfl info3 (by decide)) ?_
  refine qA hR rfl (fun _ hS => Yld.load1 hS rfl Tryz.underlying3 rfl ((Rd.flat (j := 3) (v := .int .i64 r.2.2.2) pkQ eS_len (by simpa using hil) (by rw [hge]; rfl)).at (by have h4 : (Tryz.t174).size = 4 := rfl; simp only [h4, Int.toNat_natCast]; omega))) ?_
  refine qA hR rfl (fun _ hS => Yld.nilCheck hS rfl) ?_
  refine qA hR rfl (fun _ hS => Yld.fieldAddr hS rfl 1 Tryz.underlying148 rfl rfl info3 (by decide)) ?_
  intro aa hS
  refine sB (Bstore hS hR rfl rfl (by rfl) info3 (by rfl) pkQ (by rfl) (Nat.le_of_ble_eq_true rfl) ?_); clear hR; intro ww hR
  revert aa
  refine qA hR rfl (fun _ hS => Yld.nilCheck hS rfl) ?_
  refine qA hR rfl (fun _ hS => Yld.fieldAddr hS rfl 2 Tryz.underlying174 rfl rfl info4 (by decide)) ?_
  intro aa hS
  refine sB (Bstore hS hR rfl rfl (by rfl) info4 (by rfl) pkQ (by rfl) (by have h4 : (Tryz.t174).size = 4 := rfl; simp only [h4, Int.toNat_natCast, List.length_singleton]; rw [flat_len eS_len]; omega) ?_); clear hR; intro ww hR
  replace hR := hR.flatSet (enc := eS) (m := 4) (k := i) (j := 2) (r.1, r.2.1, true, r.2.2.2) eS_len (by simpa using hil) (by have h4 : (Tryz.t174).size = 4 := rfl; simp only [h4, Int.toNat_natCast]; omega) (Nat.le_of_ble_eq_true rfl) (by rw [hge]; rfl)
  refine wpList_nil ?_
  refine hK121 _ _ ?_
  refine wp_seq_k ?_; intro K122 hK122
  refine wp_region_lit ?_
  revert aa
  refine qM hR ?_
  refine qA hR rfl (fun _ hS => Yld.nilCheck hS rfl) ?_
  refine qA hR rfl (fun _ hS => Yld.fieldAddr hS rfl 2 Tryz.underlying148 rfl rfl info3 (by decide)) ?_
  refine qA hR rfl (fun _ hS => Yld.load1 hS rfl Tryz.underlying3 rfl (Rd.blk pkQ (by rfl))) ?_
  intro aa hS
  refine sA hS hR adQ (by decide) ?_; clear hS; intro aa hS
  revert aa
  refine qA hR rfl (fun _ hS => Yld.nilCheck hS rfl) ?_
  refine qA hR rfl (fun _ hS => Yld.fieldAddr hS rfl 2 Tryz.underlying148 rfl rfl info3 (by decide)) ?_
  intro aa hS
  refine sB (Bstore hS hR rfl rfl (by rfl) info3 (by rfl) pkQ (by rfl) (Nat.le_of_ble_eq_true rfl) ?_); clear hR; intro ww hR
  refine wpList_nil ?_
  refine hK122 _ _ ?_
  refine wp_seq_k ?_; intro K123 hK123
  refine wp_region_lit ?_
  revert aa
  refine qM hR ?_
  refine qA hR rfl (fun _ hS => Yld.nilCheck hS rfl) ?_
  refine qA hR rfl (fun _ hS => Yld.fieldAddr hS rfl 0 Tryz.underlying174 rfl rfl info120 (by decide)) ?_
  refine qA hR rfl (fun _ hS => Yld.loadAgg (vs := [.int .i64 r.1, .int .i64 r.2.1]) hS rfl Tryz.underlying120 rfl info120 (Rds.at (Rds.part (j := 0) (Rds.flat (rest := []) (enc := eS) (m := 4) (xs := rs.set i (r.1, r.2.1, true, r.2.2.2)) (k := i) (by simpa using pkQ) eS_len (by simpa using hil)) (by rw [List.getElem_set_self]; rfl)) (by have h4 : (Tryz.t174).size = 4 := rfl; simp only [h4, Int.toNat_natCast]; omega)) (by rfl)) ?_
  intro aa hS
  refine sB (Bstore hS hR rfl rfl (by rfl) info120 (by rfl) pkQ (by rfl) (Nat.le_of_ble_eq_true rfl) ?_); clear hR; intro ww hR
  revert aa
  refine qN hR ?_
  intro aa hS
  refine wpList_nil ?_
  refine hK123 _ _ ?_
  refine wp_ret ?_
  repeat first | with_reducible refine thenR ?_ | with_reducible refine blockR ?_ | with_reducible refine scopeR ?_
  refine retN (fn := Tryz.f97) (e := .ret) (.inl rfl) Tryz.results97 hS hR ⟨_, .cons (.agg rfl Tryz.underlying120 rfl info120 (Rds.cons (Rd.blk pkQ (by rfl)) (Rds.cons (Rd.blk pkQ (by rfl)) (Rds.nil))) (by rfl)) (.cons (.tmp rfl) (.nil)), rfl, ?_⟩
  try dsimp only [lay, List.set] at hR
  first
   | exact ⟨by rw [Ar.top_nil hf], Sep.arenaI (by rw [Ar.take_nil hf]; exact hA) rfl (by rw [Ar.take_nil hf]) (by rw [Ar.take_nil hf]) (hR.sub (Ex.take pkQ (Ex.take pkQ (by repeat (first | with_reducible exact Ex.refl | with_reducible apply Ex.drop)))))⟩
   | (refine ⟨by rw [Ar.top_cons hf h2, h1], Sep.arenaI (hA.take hf hr) ?_ (hA.take_fst hf h5) (hA.take_cnt hf) (hR.sub (Ex.take pkQ (Ex.take pkQ (by repeat (first | with_reducible exact Ex.refl | with_reducible apply Ex.drop)))))⟩; rw [List.length_set])
theorem Give_ok {A : Ar} {b br : Nat} {rs : List Srow} {l : List HP} {w : World} (hA : Rep A rs) {s u : Int} (hR : Sep (blk b [.slice (some ⟨br, 0, none⟩) rs.length rs.length, .int .i64 (hd A.free), .int .i64 (cnt A.tk)] 148 :: blk br (rs.flatMap eS) 174 :: l) w) : CallR Tryz.prog 96 [.pointer (some ⟨b, 0, none⟩), .agg [.int .i64 s, .int .i64 u].toArray] w (fun v w' => v = .int .i64 (A.giveE s u) ∧ Sep (arena 148 174 b (A.giveH s u) :: l) w') := by
 refine enter Tryz.func96 rfl Tryz.ntmps96 (Nat.le_of_ble_eq_true rfl) ?_; intro aa hS
 have hlen := hA.len
 have hpos := hA.ok.pos
 have hlt := hA.ok.len
 refine wp_seq_k ?_; intro K124 hK124
 refine wp_region_lit ?_
 refine sB (Bbox hS hR rfl (by rfl) (by decide) ?_); clear hS hR; intro aa ww bb3 hS hR
 revert aa
 refine qN hR ?_
 intro aa hS
 refine wpList_nil ?_
 refine hK124 _ _ ?_
 refine wp_seq_k ?_; intro K125 hK125
 refine wp_block ?_
 refine wp_seq_k ?_; intro K126 hK126
 refine wp_region_lit ?_
 revert aa
 refine qM hR ?_
 intro aa hS
 refine sB (Bcall hS rfl Tryz.call91 (some_ok (hR.pk (r := blk b _ _) pkQ) (by omega)) (by decide) ?_); clear hS; intro aa ww vv hS hp
 clear hR
 obtain ⟨rfl, hR⟩ := hp
 revert aa
 refine qA hR rfl (fun _ hS => Yld.not hS rfl) ?_
 refine qN hR ?_
 intro aa hS
 refine wpList_nil ?_
 refine hK126 _ _ ?_
 refine condF hS rfl ?_
 refine wp_seq_k ?_; intro K127 hK127
 refine wp_region_lit ?_
 revert aa
 refine qM hR ?_
 refine qA hR rfl (fun _ hS => Yld.loadAgg hS rfl Tryz.underlying120 rfl info120 (Rds.cons (Rd.blk pkQ (by rfl)) (Rds.cons (Rd.blk pkQ (by rfl)) (Rds.nil))) (by rfl)) ?_
 intro aa hS
 refine sB (Bcall hS rfl Tryz.call126 (Live_ok hA ((hR.pk (r := blk br _ 174) pkQ).pk (r := blk b _ 148) pkQ)) (by decide) ?_); clear hS; intro aa ww vv hS hp
 clear hR
 obtain ⟨rfl, hR⟩ := hp
 revert aa
 refine qA hR rfl (fun _ hS => Yld.not hS rfl) ?_
 refine qN hR ?_
 intro aa hS
 refine wpList_nil ?_
 refine hK127 _ _ ?_
 refine hS.splitB (t := 10) rfl ?_ ?_ <;> clear hS
 ·
  intro hg hS
  refine condT hS rfl ?_
  refine wp_seq_k ?_; intro K128 hK128
  refine wp_region_lit ?_
  revert aa
  refine qN hR ?_
  intro aa hS
  refine wpList_nil ?_
  refine hK128 _ _ ?_
  refine wp_ret ?_
  repeat first | with_reducible refine thenR ?_ | with_reducible refine blockR ?_ | with_reducible refine scopeR ?_
  refine ret1 (fn := Tryz.f96) (e := .ret) (.inl rfl) Tryz.results96 hS hR ⟨_, (.tmp rfl), ?_⟩
  try dsimp only [lay, List.set] at hR
  first
   | exact ⟨by simp [Ar.giveE, hg], Sep.arenaI (by rw [Ar.giveH_no hg]; exact hA) rfl (by rw [Ar.giveH_no hg]) (by rw [Ar.giveH_no hg]) (hR.sub (Ex.take pkQ (Ex.take pkQ (by repeat (first | with_reducible exact Ex.refl | with_reducible apply Ex.drop)))))⟩
   | (refine ⟨by simp [Ar.giveE, hg], Sep.arenaI (br := br) (n := rs.length) (f := (i : Int)) (c := cnt A.tk - 1) (rs := rs.set i (r.1, IntKind.i64.wrap (r.2.1 + 1), false, hd A.free)) (by rw [Ar.giveH_yes hg]; exact hA.give h4 hr) ?_ (by rw [Ar.giveH_yes hg]; rfl) (by rw [Ar.giveH_yes hg]; exact hgi) (hR.sub (Ex.take pkQ (Ex.take pkQ (by repeat (first | with_reducible exact Ex.refl | with_reducible apply Ex.drop)))))⟩; rw [List.length_set])
 ·
  intro hg hS
  obtain ⟨i, r, rfl, hr, h1, h2, h3, h4⟩ := hA.at_inv hg
  have hil := (List.getElem?_eq_some_iff.1 hr).1
  have hge : rs[i] = r := (List.getElem?_eq_some_iff.1 hr).2
  have hcb := cnt_bd A.tk
  have hgi := Rep.give_cnt (A := A) h4
  refine condF hS rfl ?_
  refine wp_skip ?_
  refine hK125 _ _ ?_
  refine wp_seq_k ?_; intro K129 hK129
  refine drawn krQ hR Ex.refl ?_; clear hR; intro ww hR hR0
  revert aa
  refine eA 0 rfl krQ (fun _ _ _ h => h) hR0 rfl (fun _ hS => Yld.move hS rfl) ?_
  refine eA 1 rfl krQ (fun _ _ _ h => h) hR0 rfl (fun _ hS => Yld.nilCheck hS rfl) ?_
  refine eA 2 rfl krQ (fun _ _ _ h => h) hR0 rfl (fun _ hS => Yld.fieldAddr hS rfl 0 Tryz.underlying148 rfl rfl info146 (by decide)) ?_
  refine eA 3 rfl krQ (fun _ _ _ h => h) hR0 rfl (fun _ hS => Yld.load1 hS rfl Tryz.underlying146 rfl (Rd.blk pkQ (by rfl))) ?_
  refine eA 4 rfl krQ (fun _ _ _ h => h) hR0 rfl (fun _ hS => Yld.fieldAddr hS rfl 0 Tryz.underlying120 rfl rfl info3 (by decide)) ?_
  refine eA 5 rfl krQ (fun _ _ _ h => h) hR0 rfl (fun _ hS => Yld.load1 hS rfl Tryz.underlying3 rfl (Rd.blk pkQ (by rfl))) ?_
  refine eA 6 rfl krQ (fun _ _ _ h => h) hR0 rfl (fun _ hS => Yld.indexSlice hS rfl rfl Tryz.underlying146 info174 (by omega) (by omega)) ?_
  refine eA 7 rfl krQ (fun _ _ _ h => h) hR0 rfl (fun _ hS => Yld.assign hS rfl) ?_
  intro aa hS
  refine wpAnyH_done krQ ?_ _; clear hR0
  refine hK129 _ _ ?_
  refine wp_seq_k ?_; intro K130 hK130
  refine wp_region_lit ?_
  revert aa
  refine qM hR ?_
  refine qM hR ?_
  refine qM hR ?_
  refine qA hR rfl (fun _ hS => Yld.nilCheck hS rfl) ?_
  refine qA hR rfl (fun _ hS => Yld.fieldAddr hS rfl 1 Tryz.underlying148 rfl rfl info3 (by decide)) ?_
  refine qA hR rfl (fun _ hS => Yld.load1 hS rfl Tryz.underlying3 rfl (Rd.blk pkQ (by rfl))) ?_
  refine qA hR rfl (fun _ hS => Yld.nilCheck hS rfl) ?_
  refine qA hR rfl (fun _ hS => Yld.fieldAddr hS rfl 2 Tryz.underlying174 rfl rfl info4 (by decide)) ?_
  intro aa hS
  refine sB (Bstore hS hR rfl rfl (by rfl) info4 (by rfl) pkQ (by rfl) (by have h4 : (Tryz.t174).size = 4 := rfl; simp only [h4, Int.toNat_natCast, List.length_singleton]; rw [flat_len eS_len]; omega) ?_); clear hR; intro ww hR
  replace hR := hR.flatSet (enc := eS) (m := 4) (k := i) (j := 2) (r.1, r.2.1, false, r.2.2.2) eS_len (by simpa using hil) (by have h4 : (Tryz.t174).size = 4 := rfl; simp only [h4, Int.toNat_natCast]; omega) (Nat.le_of_ble_eq_true rfl) (by rw [hge]; rfl)
  revert aa
  refine qA hR rfl (fun _ hS => Yld.nilCheck hS rfl) ?_
  refine qA hR rfl (fun _ hS => Yld.fieldAddr hS rfl 3 Tryz.underlying174 rfl rfl info3 (by decide)) ?_
  intro aa hS
  refine sB (Bstore hS hR rfl rfl (by rfl) info3 (by rfl) pkQ (by rfl) (by have h4 : (Tryz.t174).size = 4 := rfl; simp only [h4, Int.toNat_natCast, List.length_singleton]; rw [flat_len eS_len, List.length_set]; omega) ?_); clear hR; intro ww hR
  replace hR := hR.flatSet (enc := eS) (m := 4) (k := i) (j := 3) (r.1, r.2.1, false, hd A.free) eS_len (by simpa using hil) (by have h4 : (Tryz.t174).size = 4 := rfl; simp only [h4, Int.toNat_natCast]; omega) (Nat.le_of_ble_eq_true rfl) (by rw [List.getElem_set_self]; rfl)
  rw [List.set_set] at hR
  refine wpList_nil ?_
  refine hK130 _ _ ?_
  refine wp_seq_k ?_; intro K131 hK131
  refine wp_region_lit ?_
  revert aa
  refine qM hR ?_
  refine qA hR rfl (fun _ hS => Yld.nilCheck hS rfl) ?_
  refine qA hR rfl (fun _ hS => Yld.fieldAddr hS rfl 0 Tryz.underlying174 rfl rfl info120 (by decide)) ?_
  refine qA hR rfl (fun _ hS => Yld.fieldAddr hS rfl 1 Tryz.underlying120 rfl rfl info3 (by decide)) ?_
  refine qA hR rfl (fun _ hS => Yld.load1 hS rfl Tryz.underlying3 rfl ((Rd.flat (j := 1) (v := .int .i64 r.2.1) pkQ eS_len (by simpa using hil) (by rw [List.getElem_set_self]; rfl)).at (by have h4 : (Tryz.t174).size = 4 := rfl; simp only [h4, Int.toNat_natCast]; omega))) ?_
  refine qA hR rfl (fun _ hS => Yld.add hS rfl rfl) ?_
  refine qA hR rfl (fun _ hS => Yld.nilCheck hS rfl) ?_
  refine qA hR rfl (fun _ hS => Yld.fieldAddr hS rfl 0 Tryz.underlying174 rfl rfl info120 (by decide)) ?_
  refine qA hR rfl (fun _ hS => Yld.fieldAddr hS rfl 1 Tryz.underlying120 rfl rfl info3 (by decide)) ?_
  intro aa hS
  refine sB (Bstore hS hR rfl rfl (by rfl) info3 (by rfl) pkQ (by rfl) (by have h4 : (Tryz.t174).size = 4 := rfl; simp only [h4, Int.toNat_natCast, List.length_singleton]; rw [flat_len eS_len, List.length_set]; omega) ?_); clear hR; intro ww hR
  replace hR := hR.flatSet (enc := eS) (m := 4) (k := i) (j := 1) (r.1, IntKind.i64.wrap (r.2.1 + 1), false, hd A.free) eS_len (by simpa using hil) (by have h4 : (Tryz.t174).size = 4 := rfl; simp only [h4, Int.toNat_natCast]; omega) (Nat.le_of_ble_eq_true rfl) (by rw [List.getElem_set_self]; rfl)
  rw [List.set_set] at hR
  refine wpList_nil ?_
  refine hK131 _ _ ?_
  refine wp_seq_k ?_; intro K132 hK132
  refine wp_region_lit ?_
  revert aa
  refine qM hR ?_
  refine qA hR rfl (fun _ hS => Yld.fieldAddr hS rfl 0 Tryz.underlying120 rfl rfl info3 (by decide)) ?_
  refine qA hR rfl (fun _ hS => Yld.load1 hS rfl Tryz.underlying3 rfl (Rd.blk pkQ (by rfl))) ?_
  refine qA hR rfl (fun _ hS => Yld.nilCheck hS rfl) ?_
  refine qA hR rfl (fun _ hS => Yld.fieldAddr hS rfl 1 Tryz.underlying148 rfl rfl info3 (by decide)) ?_
  intro aa hS
  refine sB (Bstore hS hR rfl rfl (by rfl) info3 (by rfl) pkQ (by rfl) (Nat.le_of_ble_eq_true rfl) ?_); clear hR; intro ww hR
  refine wpList_nil ?_
  refine hK132 _ _ ?_
  refine wp_seq_k ?_; intro K133 hK133
  refine wp_region_lit ?_
  revert aa
  refine qM hR ?_
  refine qA hR rfl (fun _ hS => Yld.nilCheck hS rfl) ?_
  refine qA hR rfl (fun _ hS => Yld.fieldAddr hS rfl 2 Tryz.underlying148 rfl rfl info3 (by decide)) ?_
  refine qA hR rfl (fun _ hS => Yld.load1 hS rfl Tryz.underlying3 rfl (Rd.blk pkQ (by rfl))) ?_
  intro aa hS
  refine sA hS hR suQ (by decide) ?_; clear hS; intro aa hS
  revert aa
  refine qA hR rfl (fun _ hS => Yld.nilCheck hS rfl) ?_
  refine qA hR rfl (fun _ hS => Yld.fieldAddr hS rfl 2 Tryz.underlying148 rfl rfl info3 (by decide)) ?_
  intro aa hS
  refine sB (Bstore hS hR rfl rfl (by rfl) info3 (by rfl) pkQ (by rfl) (Nat.le_of_ble_eq_true rfl) ?_); clear hR; intro ww hR
  refine wpList_nil ?_
  refine hK133 _ _ ?_
  refine wp_seq_k ?_; intro K134 hK134
  refine wp_region_lit ?_
  revert aa
  refine qN hR ?_
  intro aa hS
  refine wpList_nil ?_
  refine hK134 _ _ ?_
  refine wp_ret ?_
  repeat first | with_reducible refine thenR ?_ | with_reducible refine blockR ?_ | with_reducible refine scopeR ?_
  refine ret1 (fn := Tryz.f96) (e := .ret) (.inl rfl) Tryz.results96 hS hR ⟨_, (.tmp rfl), ?_⟩
  try dsimp only [lay, List.set] at hR
  first
   | exact ⟨by simp [Ar.giveE, hg], Sep.arenaI (by rw [Ar.giveH_no hg]; exact hA) rfl (by rw [Ar.giveH_no hg]) (by rw [Ar.giveH_no hg]) (hR.sub (Ex.take pkQ (Ex.take pkQ (by repeat (first | with_reducible exact Ex.refl | with_reducible apply Ex.drop)))))⟩
   | (refine ⟨by simp [Ar.giveE, hg], Sep.arenaI (br := br) (n := rs.length) (f := (i : Int)) (c := cnt A.tk - 1) (rs := rs.set i (r.1, IntKind.i64.wrap (r.2.1 + 1), false, hd A.free)) (by rw [Ar.giveH_yes hg]; exact hA.give h4 hr) ?_ (by rw [Ar.giveH_yes hg]; rfl) (by rw [Ar.giveH_yes hg]; exact hgi) (hR.sub (Ex.take pkQ (Ex.take pkQ (by repeat (first | with_reducible exact Ex.refl | with_reducible apply Ex.drop)))))⟩; rw [List.length_set])
theorem Count_ok {A : Ar} {b br : Nat} {rs : List Srow} {l : List HP} {w : World} (hA : Rep A rs) (hR : Sep (blk b [.slice (some ⟨br, 0, none⟩) rs.length rs.length, .int .i64 (hd A.free), .int .i64 (cnt A.tk)] 148 :: blk br (rs.flatMap eS) 174 :: l) w) : CallR Tryz.prog 47 [.pointer (some ⟨b, 0, none⟩)] w (fun v w' => v = .int .i64 (cnt A.tk) ∧ Sep (blk b [.slice (some ⟨br, 0, none⟩) rs.length rs.length, .int .i64 (hd A.free), .int .i64 (cnt A.tk)] 148 :: blk br (rs.flatMap eS) 174 :: l) w') := by
 refine enter Tryz.func47 rfl Tryz.ntmps47 (Nat.le_of_ble_eq_true rfl) ?_; intro aa hS
 have hlen := hA.len
 have hpos := hA.ok.pos
 have hlt := hA.ok.len
 refine wp_seq_k ?_; intro K135 hK135
 refine wp_region_lit ?_
 revert aa
 refine qN hR ?_
 intro aa hS
 refine wpList_nil ?_
 refine hK135 _ _ ?_
 refine wp_seq_k ?_; intro K136 hK136
 refine wp_seq_k ?_; intro K137 hK137
 refine wp_region_lit ?_
 revert aa
 refine qM hR ?_
 intro aa hS
 refine sB (Bcall hS rfl Tryz.call91 (some_ok (hR.pk (r := blk b _ _) pkQ) (by omega)) (by decide) ?_); clear hS; intro aa ww vv hS hp
 clear hR
 obtain ⟨rfl, hR⟩ := hp
 refine sA hS hR (Yld.not hS rfl) (by decide) ?_; clear hS; intro aa hS
 refine wpList_nil ?_
 refine hK137 _ _ ?_
 refine condF hS rfl ?_
 refine wp_skip ?_
 refine hK136 _ _ ?_
 refine wp_seq_k ?_; intro K138 hK138
 refine wp_region_lit ?_
 revert aa
 refine qM hR ?_
 refine qA hR rfl (fun _ hS => Yld.nilCheck hS rfl) ?_
 refine qA hR rfl (fun _ hS => Yld.fieldAddr hS rfl 2 Tryz.underlying148 rfl rfl info3 (by decide)) ?_
 refine qA hR rfl (fun _ hS => Yld.load1 hS rfl Tryz.underlying3 rfl (Rd.blk pkQ (by rfl))) ?_
 refine qN hR ?_
 intro aa hS
 refine wpList_nil ?_
 refine hK138 _ _ ?_
 refine wp_ret ?_
 repeat first | with_reducible refine thenR ?_ | with_reducible refine blockR ?_ | with_reducible refine scopeR ?_
 refine ret1 (fn := Tryz.f47) (e := .ret) (.inl rfl) Tryz.results47 hS hR ⟨_, (.tmp rfl), ?_⟩
 exact ⟨rfl, hR.sub (Ex.take pkQ (Ex.take pkQ (by repeat (first | with_reducible exact Ex.refl | with_reducible apply Ex.drop))))⟩
set_option maxHeartbeats 1000000 in
theorem New_ok {n : Int} {l : List HP} {w : World} (hR : Sep l w) (hn : 1 ≤ n ∧ n ≤ 4096) : CallR Tryz.prog 70 [.int .i64 n] w (fun v w' => ∃ b, v = .tuple [.pointer (some ⟨b, 0, none⟩), .int .i64 0].toArray ∧ Sep (arena 148 174 b (Ar.new n.toNat) :: l) w') := by
 refine enter Tryz.func70 rfl Tryz.ntmps70 (Nat.le_of_ble_eq_true rfl) ?_; intro aa hS
 obtain ⟨m, hm⟩ : ∃ m : Nat, n = m := ⟨n.toNat, by omega⟩
 subst hm
 refine wp_seq_k ?_; intro K144 hK144
 refine wp_region_lit ?_
 revert aa
 refine qN hR ?_
 refine qN hR ?_
 intro aa hS
 refine wpList_nil ?_
 refine hK144 _ _ ?_
 refine wp_seq_k ?_; intro K145 hK145
 refine wp_seq_k ?_; intro K146 hK146
 refine wp_region_lit ?_
 revert aa
 refine qM hR ?_
 refine qA hR rfl (fun _ hS => Yld.lss hS rfl rfl) ?_
 refine qB (t := 7) false rfl (by exact decide_eq_false (by omega)) ?_
 refine qM hR ?_
 refine qMg hR ?_
 refine qAg hR rfl rfl rfl (fun _ hS => Yld.gtr hS rfl rfl) ?_
 refine qB (t := 10) false rfl (by exact decide_eq_false (by omega)) ?_
 refine qA hR rfl (fun _ hS => Yld.pickF hS rfl rfl) ?_
 intro aa hS
 refine wpList_nil ?_
 refine hK146 _ _ ?_
 refine condF hS rfl ?_
 refine wp_skip ?_
 refine hK145 _ _ ?_
 refine wp_seq_k ?_; intro K147 hK147
 refine wp_region_lit ?_
 revert aa
 refine qM hR ?_
 intro aa hS
 refine sB (Bmake (zc := [.int .i64 0, .int .i64 0, .bool false, .int .i64 0]) hS hR rfl rfl Tryz.underlying146 info174 rfl (by rfl) (by rfl) (by decide) (by omega) (by show ((32 : Nat) : Int) * _ ≤ _; omega) (by omega) (by decide) ?_); clear hS hR; intro aa ww bb13 hS hR
 rw [Int.toNat_natCast] at hS hR
 rw [zeros_flat (zc := [.int .i64 0, .int .i64 0, .bool false, .int .i64 0]) (enc := eS) ((0, 0, false, 0) : Srow) m rfl] at hR
 refine sA hS hR (Yld.build hS rfl (bld148_0 _ _ _)) (by decide) ?_; clear hS; intro aa hS
 refine sB (Bbox hS hR rfl (by rfl) (by decide) ?_); clear hS hR; intro aa ww bb15 hS hR
 revert aa
 refine qN hR ?_
 intro aa hS
 refine wpList_nil ?_
 refine hK147 _ _ ?_
 refine wp_seq_k ?_; intro K148 hK148
 refine wp_seq_k ?_; intro K149 hK149
 refine wp_region_lit ?_
 revert aa
 refine qM hR ?_
 refine qA hR rfl (fun _ hS => Yld.nilCheck hS rfl) ?_
 refine qA hR rfl (fun _ hS => Yld.fieldAddr hS rfl 0 Tryz.underlying148 rfl rfl info146 (by decide)) ?_
 refine qA hR rfl (fun _ hS => Yld.load1 hS rfl Tryz.underlying146 rfl (Rd.blk pkQ (by rfl))) ?_
 refine qA hR rfl (fun _ hS => Yld.len hS rfl Tryz.underlying146) ?_
 refine qM hR ?_
 intro aa hS
 refine wpList_nil ?_
 refine hK149 _ _ ?_
 refine wp_block ?_
 replace hR := hR.pk (r := blk bb13 ((List.replicate m ((0, 0, false, 0) : Srow)).flatMap eS) 174) pkQ
 refine loopI (X := Nat × List Srow) (without [5, 21, 22, 23, 24, 25, 26, 27, 28, 29, 30, 31, 32, 33, 34, 35, 36, 37, 38, 39, 40, 41, 42] _) (fun x => [(21, .int .i64 (x.1 : Int))]) (fun x => [blk bb13 (x.2.flatMap eS) 174]) _ (fun x => NewI m x.1 x.2) (fun x => m - x.1) (0, List.replicate m (0, 0, false, 0)) (NewI.zero m) (hS.le (by refine (Le.cons rfl (Le.nilapp (Le.without _ _))))) hR ?_
 clear hS hR; rintro ⟨k, rs⟩ aa ww hI hS hR; dsimp only [List.cons_append, List.nil_append] at hI hS hR
 have hk1 := hI.1
 have hk2 := hI.2.1
 refine wp_seq_k ?_; intro K151 hK151
 refine wp_region_lit ?_
 refine sA hS hR (Yld.lss hS rfl rfl) (by decide) ?_; clear hS; intro aa hS
 refine wpList_nil ?_
 refine hK151 _ _ ?_
 refine wp_seq_k ?_; intro K152 hK152
 refine hS.splitB (t := 22) rfl ?_ ?_ <;> clear hS
 ·
  intro hg hS
  have hil : k < rs.length := by omega
  have hge : rs[k] = (0, 0, false, 0) := by rw [hI.get hil, if_neg (by omega)]
  refine condT hS rfl ?_
  refine wp_skip ?_
  refine hK152 _ _ ?_
  refine wp_seq_k ?_; intro K153 hK153
  refine wp_block ?_
  refine wp_seq_k ?_; intro K154 hK154
  refine wp_region_lit ?_
  revert aa
  refine qM hR ?_
  refine qN hR ?_
  intro aa hS
  refine wpList_nil ?_
  refine hK154 _ _ ?_
  refine drawn krQ hR (Ex.of_pk (r := blk bb13 _ _) pkQ) ?_; clear hR; intro ww hR hR0
  revert aa
  refine eA 0 rfl krQ (fun _ _ _ h => h) hR0 rfl (fun _ hS => Yld.move hS rfl) ?_
  refine eA 1 rfl krQ (fun _ _ _ h => h) hR0 rfl (fun _ hS => Yld.nilCheck hS rfl) ?_
  refine eA 2 rfl krQ (fun _ _ _ h => h) hR0 rfl (fun _ hS => Yld.fieldAddr hS rfl 0 Tryz.underlying148 rfl rfl info146 (by decide)) ?_
  refine eA 3 rfl krQ (fun _ _ _ h => h) hR0 rfl (fun _ hS => Yld.load1 hS rfl Tryz.underlying146 rfl (Rd.blk pkQ (by rfl))) ?_
  refine eA 4 rfl krQ (fun _ _ _ h => h) hR0 rfl (fun _ hS => Yld.move hS rfl) ?_
  refine eA 5 rfl krQ (fun _ _ _ h => h) hR0 rfl (fun _ hS => Yld.move hS rfl) ?_
  refine eA 6 rfl krQ (fun _ _ _ h => h) hR0 rfl (fun _ hS => Yld.nilCheck hS rfl) ?_
  refine eA 7 rfl krQ (fun _ _ _ h => h) hR0 rfl (fun _ hS => Yld.fieldAddr hS rfl 0 Tryz.underlying148 rfl rfl info146 (by decide)) ?_
  refine eA 8 rfl krQ (fun _ _ _ h => h) hR0 rfl (fun _ hS => Yld.load1 hS rfl Tryz.underlying146 rfl (Rd.blk pkQ (by rfl))) ?_
  refine eA 9 rfl krQ (fun _ _ _ h => h) hR0 rfl (fun _ hS => Yld.move hS rfl) ?_
  refine eA 10 rfl krQ (fun _ _ _ h => h) hR0 rfl (fun _ hS => Yld.move hS rfl) ?_
  refine eA 11 rfl krQ (fun _ _ _ h => h) hR0 rfl (fun _ hS => Yld.move hS rfl) ?_
  intro aa hS
  refine dA 12 rfl krQ krQ krQ (fun _ _ _ h => h) hS hR0 adQ (by decide) ?_; clear hS; intro aa hS
  revert aa
  refine eA 13 rfl krQ (fun _ _ _ h => h) hR0 rfl (fun _ hS => Yld.indexSlice hS rfl rfl Tryz.underlying146 info174 (by omega) (by omega)) ?_
  refine eA 14 rfl krQ (fun _ _ _ h => h) hR0 rfl (fun _ hS => Yld.fieldAddr hS rfl 0 Tryz.underlying174 rfl rfl info120 (by decide)) ?_
  refine eA 15 rfl krQ (fun _ _ _ h => h) hR0 rfl (fun _ hS => Yld.fieldAddr hS rfl 0 Tryz.underlying120 rfl rfl info3 (by decide)) ?_
  intro aa hS
  refine dOne (i := 16) krQ ?_
  refine dop rfl (Bstore hS hR rfl rfl (by rfl) info3 (by rfl) pkQ (by rfl) (by have h4 : (Tryz.t174).size = 4 := rfl; simp only [h4, Int.toNat_natCast, List.length_singleton]; rw [flat_len eS_len]; (try rw [List.length_set]); omega) ?_); clear hR hR0; intro ww hR
  first
   | replace hR := hR.flatSet (enc := eS) (m := 4) (k := k) (j := 0) ((k : Int), 0, false, 0) eS_len (by simpa using hil) (by have h4 : (Tryz.t174).size = 4 := rfl; simp only [h4, Int.toNat_natCast]; omega) (Nat.le_of_ble_eq_true rfl) (by rw [hge]; rfl)
   | (replace hR := hR.flatSet (enc := eS) (m := 4) (k := k) (j := 0) ((k : Int), 0, false, (k : Int) + 1) eS_len (by simpa using hil) (by have h4 : (Tryz.t174).size = 4 := rfl; simp only [h4, Int.toNat_natCast]; omega) (Nat.le_of_ble_eq_true rfl) (by rw [List.getElem_set_self]; rfl); rw [List.set_set] at hR)
  refine dnext (hR.sub (by repeat (first | with_reducible exact Ex.refl | with_reducible apply Ex.drop))) ?_; intro hR0
  revert aa
  refine eA 17 rfl krQ (fun _ _ _ h => h) hR0 rfl (fun _ hS => Yld.indexSlice hS rfl rfl Tryz.underlying146 info174 (by omega) (by omega)) ?_
  refine eA 18 rfl krQ (fun _ _ _ h => h) hR0 rfl (fun _ hS => Yld.fieldAddr hS rfl 3 Tryz.underlying174 rfl rfl info3 (by decide)) ?_
  intro aa hS
  refine dOne (i := 19) krQ ?_
  refine dop rfl (Bstore hS hR rfl rfl (by rfl) info3 (by rfl) pkQ (by rfl) (by have h4 : (Tryz.t174).size = 4 := rfl; simp only [h4, Int.toNat_natCast, List.length_singleton]; rw [flat_len eS_len]; (try rw [List.length_set]); omega) ?_); clear hR hR0; intro ww hR
  first
   | replace hR := hR.flatSet (enc := eS) (m := 4) (k := k) (j := 3) (0, 0, false, (k : Int) + 1) eS_len (by simpa using hil) (by have h4 : (Tryz.t174).size = 4 := rfl; simp only [h4, Int.toNat_natCast]; omega) (Nat.le_of_ble_eq_true rfl) (by rw [hge]; rfl)
   | (replace hR := hR.flatSet (enc := eS) (m := 4) (k := k) (j := 3) ((k : Int), 0, false, (k : Int) + 1) eS_len (by simpa using hil) (by have h4 : (Tryz.t174).size = 4 := rfl; simp only [h4, Int.toNat_natCast]; omega) (Nat.le_of_ble_eq_true rfl) (by rw [List.getElem_set_self]; rfl); rw [List.set_set] at hR)
  refine dnext (hR.sub (by repeat (first | with_reducible exact Ex.refl | with_reducible apply Ex.drop))) ?_; intro hR0
  refine wpAnyH_done krQ ?_ _; clear hR0
  refine hK153 _ _ ?_
  refine wp_region_lit ?_
  refine sA hS hR adQ (by decide) ?_; clear hS; intro aa hS
  revert aa
  refine qM hR ?_
  intro aa hS
  refine wpList_nil ?_
  refine ⟨(k + 1, rs.set k ((k : Int), 0, false, (k : Int) + 1)), ?_, ?_, hS.le (Le.cons rfl (Le.nilapp (by repeat (first | with_reducible exact Le.refl _ | refine Le.skip (lk_without rfl) ?_ | refine Le_inner rfl ?_)))), hR.sub (Ex.take pkQ (Ex.nilapp exQ))⟩
  ·
   exact hI.step (by omega)
  ·
   dsimp only; omega
 ·
  intro hg hS
  obtain rfl : m = k := by omega
  refine condF hS rfl ?_
  refine wp_exit ?_
  refine hK148 _ _ ?_
  refine wp_seq_k ?_; intro K155 hK155
  refine wp_region_lit ?_
  revert aa
  refine qM hR ?_
  refine qA hR rfl (fun _ hS => Yld.nilCheck hS rfl) ?_
  refine qA hR rfl (fun _ hS => Yld.fieldAddr hS rfl 0 Tryz.underlying148 rfl rfl info146 (by decide)) ?_
  refine qA hR rfl (fun _ hS => Yld.load1 hS rfl Tryz.underlying146 rfl (Rd.blk pkQ (by rfl))) ?_
  refine qM hR ?_
  intro aa hS
  refine sA hS hR suQ (by decide) ?_; clear hS; intro aa hS
  revert aa
  refine qA hR rfl (fun _ hS => Yld.indexSlice hS rfl rfl Tryz.underlying146 info174 (by omega) (by omega)) ?_
  refine qA hR rfl (fun _ hS => Yld.fieldAddr hS rfl 3 Tryz.underlying174 rfl rfl info3 (by decide)) ?_
  intro aa hS
  refine sB (Bstore hS hR rfl rfl (by rfl) info3 (by rfl) pkQ (by rfl) (by have h4 : (Tryz.t174).size = 4 := rfl; simp only [h4, List.length_singleton]; rw [flat_len eS_len]; omega) ?_); clear hR; intro ww hR
  replace hR := hR.flatSet (enc := eS) (m := 4) (k := m - 1) (j := 3) (((m - 1 : Nat) : Int), 0, false, -1) eS_len (by omega) (by have h4 : (Tryz.t174).size = 4 := rfl; simp only [h4]; omega) (Nat.le_of_ble_eq_true rfl) (by rw [hI.get (by omega), if_pos (by omega)]; rfl)
  refine wpList_nil ?_
  refine hK155 _ _ ?_
  refine wp_seq_k ?_; intro K156 hK156
  refine wp_region_lit ?_
  revert aa
  refine qM hR ?_
  refine qN hR ?_
  refine qN hR ?_
  intro aa hS
  refine wpList_nil ?_
  refine hK156 _ _ ?_
  refine wp_ret ?_
  repeat first | with_reducible refine thenR ?_ | with_reducible refine blockR ?_ | with_reducible refine scopeR ?_
  refine retN (fn := Tryz.f70) (e := .ret) (.inl rfl) Tryz.results70 hS hR ⟨_, .cons (.tmp rfl) (.cons (.tmp rfl) (.nil)), rfl, ?_⟩
  refine ⟨_, rfl, Sep.arenaI (br := bb13) (n := m) (f := 0) (c := 0) (rs := rs.set (m - 1) (((m - 1 : Nat) : Int), 0, false, -1)) (by rw [Int.toNat_natCast]; exact hI.done (by omega) (by omega)) (by rw [List.length_set]; omega) (by rw [Int.toNat_natCast]; exact new_first (by omega)) (by rw [Int.toNat_natCast]; exact new_cnt) (hR.sub (Ex.take pkQ (Ex.take pkQ (by repeat (first | with_reducible exact Ex.refl | with_reducible apply Ex.drop)))))⟩
end Go.Proofs.YtkhdejjompbklaaGreat.Sx
