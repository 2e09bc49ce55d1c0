/-
 
-/
import Derived.Test.YthhndmlfgjcgpaaZRwC
namespace Go.Proofs.Ythhndmlfgjcgpaa.Sx
open Go
set_option maxRecDepth 20000
set_option linter.unusedVariables false
set_option linter.unusedSimpArgs false
theorem info107 : Try.prog.info? 107 = some Try.t107 := by kernel_rfl
theorem bld123_0_1_2 (x0_0 : Int) (x0_1 : Int) (x1_0 : Int) (x1_1 : Int) (x1_2 : Int) (x1_3 : Int) (x1_4 : Int) (x2 : Int) (w : World) : (Instr.build 123 [(0, .agg [.int .i64 x0_0, .int .i64 x0_1].toArray), (1, .agg [.int .u8 x1_0, .int .u32 x1_1, .int .u32 x1_2, .int .u16 x1_3, .int .u16 x1_4].toArray), (2, .int .i64 x2)].toArray).run Try.prog w = .ok (.agg [.int .i64 x0_0, .int .i64 x0_1, .int .u8 x1_0, .int .u32 x1_1, .int .u32 x1_2, .int .u16 x1_3, .int .u16 x1_4, .int .i64 x2].toArray) w := by kernel_rfl
theorem bld183_0 (x0 : Int) (w : World) : (Instr.build 183 [(0, .int .i64 x0)].toArray).run Try.prog w = .ok (.agg [.int .i64 x0, .slice none 0 0, .slice none 0 0].toArray) w := by kernel_rfl
theorem bls109_0_  (w : World) : (Instr.buildSlice 109 0 [].toArray).run Try.prog w = .ok (.slice (some ⟨w.heap.size, 0, none⟩) 0 0) (w.alloc (.cells ([] : List Value).toArray 123)) := by kernel_rfl
set_option maxHeartbeats 1000000 in
theorem RfAdd_bad {T : Tb} {S n b : Nat} {l : List HP} {w : World} {k : Ky} {i : Int} (hi : ¬ (0 ≤ i ∧ i < n)) (hk : WfK k) (hR : Sep (r16A rt b S n T :: l) w) : CallR Try.prog 58 [.pointer (some ⟨b, 0, none⟩), vK k, .int .i64 i] w (fun v w' => v = .tuple [vH 0 0, .int .i64 2].toArray ∧ Sep (r16A rt b S n T :: l) w') := by
 refine enter Try.func58 rfl Try.ntmps58 (Nat.le_of_ble_eq_true rfl) ?_; intro aa hS
 obtain ⟨ba, r, c, hTF, hS4, hR⟩ := (hR.pk (r := r16A _ b _ _ _) pkQ).r16E
 have hFl := hTF.len
 have hrc := (hR.pk (r := sls r _ _ _ _ _) pkQ).slsLe.1
 refine wp_seq_k ?_; intro K993 hK993
 refine wp_region_lit ?_
 refine sB (Bbox hS hR rfl (by rfl) (by decide) ?_); clear hS hR; intro aa ww bb4 hS hR
 refine sB (Balloc hS hR info112 (by rfl) (by rfl) (by decide) ?_); clear hS hR; intro aa ww bb6 hS hR
 revert aa
 refine qN hR ?_
 intro aa hS
 refine wpList_nil ?_
 refine hK993 _ _ ?_
 refine wp_seq_k ?_; intro K994 hK994
 refine wp_seq_k ?_; intro K995 hK995
 refine wp_region_lit ?_
 revert aa
 refine qM hR ?_
 refine qA hR rfl (fun _ hS => Yld.lss hS rfl rfl) ?_
 refine qM hR ?_
 intro aa hS
 refine hS.splitB (t := 15) rfl ?_ ?_ <;> clear hS
 ·
  intro hg hS
  revert aa
  refine qZ ?_
  refine qZ ?_
  refine qZ ?_
  refine qZ ?_
  refine qZ ?_
  refine qZ ?_
  refine qA hR rfl (fun _ hS => Yld.pickT hS rfl rfl) ?_
  intro aa hS
  refine wpList_nil ?_
  refine hK995 _ _ ?_
  refine condT hS rfl ?_
  refine wp_seq_k ?_; intro K996 hK996
  refine wp_region_lit ?_
  refine sA hS hR (Yld.build hS rfl (bld112_)) (by decide) ?_; clear hS; intro aa hS
  refine sB (Bstore hS hR rfl rfl (by rfl) info112 (by rfl) pkQ (by rfl) (Nat.le_of_ble_eq_true rfl) ?_); clear hR; intro ww hR
  revert aa
  refine qN hR ?_
  intro aa hS
  refine wpList_nil ?_
  refine hK996 _ _ ?_
  refine wp_ret ?_
  repeat first | with_reducible refine thenR ?_ | with_reducible refine blockR ?_ | with_reducible refine scopeR ?_
  refine retN (fn := Try.f58) (e := .ret) (.inl rfl) Try.results58 hS hR ⟨_, .cons (.agg rfl Try.underlying112 rfl info112 (Rds.cons (Rd.blk pkQ (by rfl)) (Rds.cons (Rd.blk pkQ (by rfl)) (Rds.nil))) (by rfl)) (.cons (.tmp rfl) (.nil)), rfl, ?_⟩
  try dsimp only [lay, List.set] at hR
  exact ⟨rfl, Sep.r16J (t := rt) (b := b) (n := n) (T := T) hTF hS4 (hR.sub exQ)⟩
 ·
  intro hg hS
  revert aa
  refine qMg hR ?_
  refine qMg hR ?_
  refine qAg hR rfl rfl rfl (fun _ hS => Yld.nilCheck hS rfl) ?_
  refine qAg hR rfl rfl rfl (fun _ hS => Yld.fieldAddr hS rfl 2 Try.underlying111 rfl rfl info3 (by decide)) ?_
  refine qAg hR rfl rfl rfl (fun _ hS => Yld.load1 hS rfl Try.underlying3 rfl rdQ) ?_
  refine qAg hR rfl rfl rfl (fun _ hS => Yld.geq hS rfl rfl) ?_
  refine qA hR rfl (fun _ hS => Yld.pickF hS rfl rfl) ?_
  intro aa hS
  refine wpList_nil ?_
  refine hK995 _ _ ?_
  refine hS.splitB (t := 22) rfl ?_ ?_ <;> clear hS
  ·
   intro hg hS
   refine condT hS rfl ?_
   refine wp_seq_k ?_; intro K997 hK997
   refine wp_region_lit ?_
   refine sA hS hR (Yld.build hS rfl (bld112_)) (by decide) ?_; clear hS; intro aa hS
   refine sB (Bstore hS hR rfl rfl (by rfl) info112 (by rfl) pkQ (by rfl) (Nat.le_of_ble_eq_true rfl) ?_); clear hR; intro ww hR
   revert aa
   refine qN hR ?_
   intro aa hS
   refine wpList_nil ?_
   refine hK997 _ _ ?_
   refine wp_ret ?_
   repeat first | with_reducible refine thenR ?_ | with_reducible refine blockR ?_ | with_reducible refine scopeR ?_
   refine retN (fn := Try.f58) (e := .ret) (.inl rfl) Try.results58 hS hR ⟨_, .cons (.agg rfl Try.underlying112 rfl info112 (Rds.cons (Rd.blk pkQ (by rfl)) (Rds.cons (Rd.blk pkQ (by rfl)) (Rds.nil))) (by rfl)) (.cons (.tmp rfl) (.nil)), rfl, ?_⟩
   try dsimp only [lay, List.set] at hR
   exact ⟨rfl, Sep.r16J (t := rt) (b := b) (n := n) (T := T) hTF hS4 (hR.sub exQ)⟩
  ·
   intro hg hS
   omega
set_option maxHeartbeats 1000000 in
theorem RfAdd_has {T : Tb} {S n b : Nat} {l : List HP} {w : World} {k : Ky} {i : Nat} {f : Fl} (hi : i < n) (hf : fndK T.F k = some f) (hk : WfK k) (hR : Sep (r16A rt b S n T :: l) w) : CallR Try.prog 58 [.pointer (some ⟨b, 0, none⟩), vK k, .int .i64 (i : Int)] w (fun v w' => v = .tuple [vH 0 0, .int .i64 160].toArray ∧ Sep (r16A rt b S n T :: l) w') := by
 refine enter Try.func58 rfl Try.ntmps58 (Nat.le_of_ble_eq_true rfl) ?_; intro aa hS
 obtain ⟨ba, r, c, hTF, hS4, hR⟩ := (hR.pk (r := r16A _ b _ _ _) pkQ).r16E
 have hFl := hTF.len
 have hrc := (hR.pk (r := sls r _ _ _ _ _) pkQ).slsLe.1
 refine wp_seq_k ?_; intro K998 hK998
 refine wp_region_lit ?_
 refine sB (Bbox hS hR rfl (by rfl) (by decide) ?_); clear hS hR; intro aa ww bb4 hS hR
 refine sB (Balloc hS hR info112 (by rfl) (by rfl) (by decide) ?_); clear hS hR; intro aa ww bb6 hS hR
 revert aa
 refine qN hR ?_
 intro aa hS
 refine wpList_nil ?_
 refine hK998 _ _ ?_
 refine wp_seq_k ?_; intro K999 hK999
 refine wp_seq_k ?_; intro K1000 hK1000
 refine wp_region_lit ?_
 revert aa
 refine qM hR ?_
 refine qA hR rfl (fun _ hS => Yld.lss hS rfl rfl) ?_
 refine qB (t := 14) false rfl (by exact decide_eq_false (by omega)) ?_
 refine qM hR ?_
 refine qMg hR ?_
 refine qMg hR ?_
 refine qAg hR rfl rfl rfl (fun _ hS => Yld.nilCheck hS rfl) ?_
 refine qAg hR rfl rfl rfl (fun _ hS => Yld.fieldAddr hS rfl 2 Try.underlying111 rfl rfl info3 (by decide)) ?_
 refine qAg hR rfl rfl rfl (fun _ hS => Yld.load1 hS rfl Try.underlying3 rfl rdQ) ?_
 refine qAg hR rfl rfl rfl (fun _ hS => Yld.geq hS rfl rfl) ?_
 refine qB (t := 21) false rfl (by exact decide_eq_false (by omega)) ?_
 refine qA hR rfl (fun _ hS => Yld.pickF hS rfl rfl) ?_
 intro aa hS
 refine wpList_nil ?_
 refine hK1000 _ _ ?_
 refine condF hS rfl ?_
 refine wp_skip ?_
 refine hK999 _ _ ?_
 refine wp_seq_k ?_; intro K1001 hK1001
 refine wp_seq_k ?_; intro K1002 hK1002
 refine wp_region_lit ?_
 revert aa
 refine qM hR ?_
 intro aa hS
 refine sA hS hR (Yld.loadAgg hS rfl Try.underlying35 rfl info35 rdsQ5 (by rfl)) (by decide) ?_; clear hS; intro aa hS
 replace hR := Sep.r16J (t := rt) (b := b) (n := n) (T := T) hTF hS4 (hR.sub exQ)
 refine sB (Bcall hS rfl Try.call61 (RFind_ok (k := k) (hR.pk (r := r16A _ b _ _ _) pkQ)) (by decide) ?_); clear hS; intro aa ww vv hS hp
 clear hR
 obtain ⟨rfl, hR⟩ := hp
 rw [fndV_some hf] at hS
 revert aa
 refine qM hR ?_
 refine qX hR ?_
 refine qX hR ?_
 refine qX hR ?_
 refine qB (t := 30) true rfl (by rfl) ?_
 intro aa hS
 refine sB (Balloc hS hR info112 (by rfl) (by rfl) (by decide) ?_); clear hS hR; intro aa ww bb8 hS hR
 refine sB (Bstore hS hR rfl rfl (by rfl) info112 (by rfl) pkQ (by rfl) (Nat.le_of_ble_eq_true rfl) ?_); clear hR; intro ww hR
 revert aa
 refine qN hR ?_
 refine qN hR ?_
 intro aa hS
 refine wpList_nil ?_
 refine hK1002 _ _ ?_
 refine wp_seq_k ?_; intro K1003 hK1003
 refine wp_region_lit ?_
 revert aa
 refine qM hR ?_
 intro aa hS
 refine wpList_nil ?_
 refine hK1003 _ _ ?_
 refine condT hS rfl ?_
 refine wp_seq_k ?_; intro K1004 hK1004
 refine wp_region_lit ?_
 refine sA hS hR (Yld.build hS rfl (bld112_)) (by decide) ?_; clear hS; intro aa hS
 refine sB (Bstore hS hR rfl rfl (by rfl) info112 (by rfl) pkQ (by rfl) (Nat.le_of_ble_eq_true rfl) ?_); clear hR; intro ww hR
 revert aa
 refine qN hR ?_
 intro aa hS
 refine wpList_nil ?_
 refine hK1004 _ _ ?_
 refine wp_ret ?_
 repeat first | with_reducible refine thenR ?_ | with_reducible refine blockR ?_ | with_reducible refine scopeR ?_
 refine retN (fn := Try.f58) (e := .ret) (.inl rfl) Try.results58 hS hR ⟨_, .cons (.agg rfl Try.underlying112 rfl info112 (Rds.cons (Rd.blk pkQ (by rfl)) (Rds.cons (Rd.blk pkQ (by rfl)) (Rds.nil))) (by rfl)) (.cons (.tmp rfl) (.nil)), rfl, ?_⟩
 try dsimp only [lay, List.set] at hR
 exact ⟨rfl, (hR.sub exQ)⟩
set_option maxHeartbeats 1000000 in
theorem RfAdd_full {T : Tb} {S n b : Nat} {l : List HP} {w : World} {k : Ky} {i : Nat} (hi : i < n) (hn : fndK T.F k = none) (he : T.A.free = []) (hk : WfK k) (hR : Sep (r16A rt b S n T :: l) w) : CallR Try.prog 58 [.pointer (some ⟨b, 0, none⟩), vK k, .int .i64 (i : Int)] w (fun v w' => v = .tuple [vH 0 0, .int .i64 4].toArray ∧ Sep (r16A rt b S n T :: l) w') := by
 refine enter Try.func58 rfl Try.ntmps58 (Nat.le_of_ble_eq_true rfl) ?_; intro aa hS
 obtain ⟨ba, r, c, hTF, hS4, hR⟩ := (hR.pk (r := r16A _ b _ _ _) pkQ).r16E
 have hFl := hTF.len
 have hrc := (hR.pk (r := sls r _ _ _ _ _) pkQ).slsLe.1
 refine wp_seq_k ?_; intro K1005 hK1005
 refine wp_region_lit ?_
 refine sB (Bbox hS hR rfl (by rfl) (by decide) ?_); clear hS hR; intro aa ww bb4 hS hR
 refine sB (Balloc hS hR info112 (by rfl) (by rfl) (by decide) ?_); clear hS hR; intro aa ww bb6 hS hR
 revert aa
 refine qN hR ?_
 intro aa hS
 refine wpList_nil ?_
 refine hK1005 _ _ ?_
 refine wp_seq_k ?_; intro K1006 hK1006
 refine wp_seq_k ?_; intro K1007 hK1007
 refine wp_region_lit ?_
 revert aa
 refine qM hR ?_
 refine qA hR rfl (fun _ hS => Yld.lss hS rfl rfl) ?_
 refine qB (t := 14) false rfl (by exact decide_eq_false (by omega)) ?_
 refine qM hR ?_
 refine qMg hR ?_
 refine qMg hR ?_
 refine qAg hR rfl rfl rfl (fun _ hS => Yld.nilCheck hS rfl) ?_
 refine qAg hR rfl rfl rfl (fun _ hS => Yld.fieldAddr hS rfl 2 Try.underlying111 rfl rfl info3 (by decide)) ?_
 refine qAg hR rfl rfl rfl (fun _ hS => Yld.load1 hS rfl Try.underlying3 rfl rdQ) ?_
 refine qAg hR rfl rfl rfl (fun _ hS => Yld.geq hS rfl rfl) ?_
 refine qB (t := 21) false rfl (by exact decide_eq_false (by omega)) ?_
 refine qA hR rfl (fun _ hS => Yld.pickF hS rfl rfl) ?_
 intro aa hS
 refine wpList_nil ?_
 refine hK1007 _ _ ?_
 refine condF hS rfl ?_
 refine wp_skip ?_
 refine hK1006 _ _ ?_
 refine wp_seq_k ?_; intro K1008 hK1008
 refine wp_seq_k ?_; intro K1009 hK1009
 refine wp_region_lit ?_
 revert aa
 refine qM hR ?_
 intro aa hS
 refine sA hS hR (Yld.loadAgg hS rfl Try.underlying35 rfl info35 rdsQ5 (by rfl)) (by decide) ?_; clear hS; intro aa hS
 replace hR := Sep.r16J (t := rt) (b := b) (n := n) (T := T) hTF hS4 (hR.sub exQ)
 refine sB (Bcall hS rfl Try.call61 (RFind_ok (k := k) (hR.pk (r := r16A _ b _ _ _) pkQ)) (by decide) ?_); clear hS; intro aa ww vv hS hp
 clear hR
 obtain ⟨rfl, hR⟩ := hp
 rw [fndV_none hn] at hS
 revert aa
 refine qM hR ?_
 refine qX hR ?_
 refine qX hR ?_
 refine qX hR ?_
 refine qB (t := 30) false rfl (by rfl) ?_
 intro aa hS
 refine sB (Balloc hS hR info112 (by rfl) (by rfl) (by decide) ?_); clear hS hR; intro aa ww bb8 hS hR
 refine sB (Bstore hS hR rfl rfl (by rfl) info112 (by rfl) pkQ (by rfl) (Nat.le_of_ble_eq_true rfl) ?_); clear hR; intro ww hR
 revert aa
 refine qN hR ?_
 refine qN hR ?_
 intro aa hS
 refine wpList_nil ?_
 refine hK1009 _ _ ?_
 refine wp_seq_k ?_; intro K1010 hK1010
 refine wp_region_lit ?_
 revert aa
 refine qM hR ?_
 intro aa hS
 refine wpList_nil ?_
 refine hK1010 _ _ ?_
 refine condF hS rfl ?_
 refine wp_skip ?_
 refine hK1008 _ _ ?_
 refine wp_seq_k ?_; intro K1011 hK1011
 refine wp_region_lit ?_
 revert aa
 refine qM hR ?_
 refine qA hR rfl (fun _ hS => Yld.nilCheck hS rfl) ?_
 refine qA hR rfl (fun _ hS => Yld.fieldAddr hS rfl 1 Try.underlying111 rfl rfl info107 (by decide)) ?_
 intro aa hS
 obtain ⟨ba, r, c, hTF, hS4, hR⟩ := (hR.pk (r := r16A _ b _ _ _) pkQ).r16E
 have hFl := hTF.len
 have hrc := (hR.pk (r := sls r _ _ _ _ _) pkQ).slsLe.1
 refine sA hS hR (Yld.load1 hS rfl Try.underlying107 rfl rdQ) (by decide) ?_; clear hS; intro aa hS
 refine sB (Bcall hS rfl Try.call83 (RTake_ok (A := T.A) (hR.pk (r := rar _ _ _ ba _) pkQ)) (by decide) ?_); clear hS; intro aa ww vv hS hp
 clear hR
 obtain ⟨rfl, hR⟩ := hp
 rw [Ar.top_nil he] at hS; rw [Ar.take_nil he] at hR
 dsimp only at hS
 revert aa
 refine qM hR ?_
 refine qX hR ?_
 refine qX hR ?_
 intro aa hS
 refine sB (Balloc hS hR info112 (by rfl) (by rfl) (by decide) ?_); clear hS hR; intro aa ww bb11 hS hR
 refine sB (Bstore hS hR rfl rfl (by rfl) info112 (by rfl) pkQ (by rfl) (Nat.le_of_ble_eq_true rfl) ?_); clear hR; intro ww hR
 revert aa
 refine qN hR ?_
 intro aa hS
 refine wpList_nil ?_
 refine hK1011 _ _ ?_
 refine wp_seq_k ?_; intro K1012 hK1012
 refine wp_seq_k ?_; intro K1013 hK1013
 refine wp_region_lit ?_
 revert aa
 refine qM hR ?_
 refine qA hR rfl (fun _ hS => Yld.eql hS rfl rfl) ?_
 refine qB (t := 42) false rfl (by rfl) ?_
 intro aa hS
 refine wpList_nil ?_
 refine hK1013 _ _ ?_
 refine condF hS rfl ?_
 refine wp_skip ?_
 refine hK1012 _ _ ?_
 refine wp_seq_k ?_; intro K1014 hK1014
 refine wp_region_lit ?_
 refine sA hS hR (Yld.loadAgg hS rfl Try.underlying112 rfl info112 rdsQ2 (by rfl)) (by decide) ?_; clear hS; intro aa hS
 revert aa
 refine qM hR ?_
 intro aa hS
 refine sB (Bstore hS hR rfl rfl (by rfl) info112 (by rfl) pkQ (by rfl) (Nat.le_of_ble_eq_true rfl) ?_); clear hR; intro ww hR
 revert aa
 refine qN hR ?_
 intro aa hS
 refine wpList_nil ?_
 refine hK1014 _ _ ?_
 refine wp_ret ?_
 repeat first | with_reducible refine thenR ?_ | with_reducible refine blockR ?_ | with_reducible refine scopeR ?_
 refine retN (fn := Try.f58) (e := .ret) (.inl rfl) Try.results58 hS hR ⟨_, .cons (.agg rfl Try.underlying112 rfl info112 (Rds.cons (Rd.blk pkQ (by rfl)) (Rds.cons (Rd.blk pkQ (by rfl)) (Rds.nil))) (by rfl)) (.cons (.tmp rfl) (.nil)), rfl, ?_⟩
 try dsimp only [lay, List.set] at hR
 exact ⟨rfl, Sep.r16J (t := rt) (b := b) (n := n) (T := T) hTF hS4 (hR.sub exQ)⟩
set_option maxHeartbeats 1000000 in
theorem RfAdd_new {T : Tb} {S n b : Nat} {l : List HP} {w : World} {k : Ky} {i s : Nat} {fs : List Nat} (hi : i < n) (hn : fndK T.F k = none) (he : T.A.free = s :: fs) (hk : WfK k) (hR : Sep (r16A rt b S n T :: l) w) : CallR Try.prog 58 [.pointer (some ⟨b, 0, none⟩), vK k, .int .i64 (i : Int)] w (fun v w' => v = .tuple [vH (s : Int) (T.A.turn[s]?.getD 0), .int .i64 0].toArray ∧ Sep (r16A rt b S n { F := T.F ++ [⟨s, T.A.turn[s]?.getD 0, k, i⟩], A := T.A.take } :: l) w') := by
 refine enter Try.func58 rfl Try.ntmps58 (Nat.le_of_ble_eq_true rfl) ?_; intro aa hS
 obtain ⟨ba, r, c, hTF, hS4, hR⟩ := (hR.pk (r := r16A _ b _ _ _) pkQ).r16E
 have hFl := hTF.len
 have hrc := (hR.pk (r := sls r _ _ _ _ _) pkQ).slsLe.1
 refine wp_seq_k ?_; intro K1015 hK1015
 refine wp_region_lit ?_
 refine sB (Bbox hS hR rfl (by rfl) (by decide) ?_); clear hS hR; intro aa ww bb4 hS hR
 refine sB (Balloc hS hR info112 (by rfl) (by rfl) (by decide) ?_); clear hS hR; intro aa ww bb6 hS hR
 revert aa
 refine qN hR ?_
 intro aa hS
 refine wpList_nil ?_
 refine hK1015 _ _ ?_
 refine wp_seq_k ?_; intro K1016 hK1016
 refine wp_seq_k ?_; intro K1017 hK1017
 refine wp_region_lit ?_
 revert aa
 refine qM hR ?_
 refine qA hR rfl (fun _ hS => Yld.lss hS rfl rfl) ?_
 refine qB (t := 14) false rfl (by exact decide_eq_false (by omega)) ?_
 refine qM hR ?_
 refine qMg hR ?_
 refine qMg hR ?_
 refine qAg hR rfl rfl rfl (fun _ hS => Yld.nilCheck hS rfl) ?_
 refine qAg hR rfl rfl rfl (fun _ hS => Yld.fieldAddr hS rfl 2 Try.underlying111 rfl rfl info3 (by decide)) ?_
 refine qAg hR rfl rfl rfl (fun _ hS => Yld.load1 hS rfl Try.underlying3 rfl rdQ) ?_
 refine qAg hR rfl rfl rfl (fun _ hS => Yld.geq hS rfl rfl) ?_
 refine qB (t := 21) false rfl (by exact decide_eq_false (by omega)) ?_
 refine qA hR rfl (fun _ hS => Yld.pickF hS rfl rfl) ?_
 intro aa hS
 refine wpList_nil ?_
 refine hK1017 _ _ ?_
 refine condF hS rfl ?_
 refine wp_skip ?_
 refine hK1016 _ _ ?_
 refine wp_seq_k ?_; intro K1018 hK1018
 refine wp_seq_k ?_; intro K1019 hK1019
 refine wp_region_lit ?_
 revert aa
 refine qM hR ?_
 intro aa hS
 refine sA hS hR (Yld.loadAgg hS rfl Try.underlying35 rfl info35 rdsQ5 (by rfl)) (by decide) ?_; clear hS; intro aa hS
 replace hR := Sep.r16J (t := rt) (b := b) (n := n) (T := T) hTF hS4 (hR.sub exQ)
 refine sB (Bcall hS rfl Try.call61 (RFind_ok (k := k) (hR.pk (r := r16A _ b _ _ _) pkQ)) (by decide) ?_); clear hS; intro aa ww vv hS hp
 clear hR
 obtain ⟨rfl, hR⟩ := hp
 rw [fndV_none hn] at hS
 revert aa
 refine qM hR ?_
 refine qX hR ?_
 refine qX hR ?_
 refine qX hR ?_
 refine qB (t := 30) false rfl (by rfl) ?_
 intro aa hS
 refine sB (Balloc hS hR info112 (by rfl) (by rfl) (by decide) ?_); clear hS hR; intro aa ww bb8 hS hR
 refine sB (Bstore hS hR rfl rfl (by rfl) info112 (by rfl) pkQ (by rfl) (Nat.le_of_ble_eq_true rfl) ?_); clear hR; intro ww hR
 revert aa
 refine qN hR ?_
 refine qN hR ?_
 intro aa hS
 refine wpList_nil ?_
 refine hK1019 _ _ ?_
 refine wp_seq_k ?_; intro K1020 hK1020
 refine wp_region_lit ?_
 revert aa
 refine qM hR ?_
 intro aa hS
 refine wpList_nil ?_
 refine hK1020 _ _ ?_
 refine condF hS rfl ?_
 refine wp_skip ?_
 refine hK1018 _ _ ?_
 refine wp_seq_k ?_; intro K1021 hK1021
 refine wp_region_lit ?_
 revert aa
 refine qM hR ?_
 refine qA hR rfl (fun _ hS => Yld.nilCheck hS rfl) ?_
 refine qA hR rfl (fun _ hS => Yld.fieldAddr hS rfl 1 Try.underlying111 rfl rfl info107 (by decide)) ?_
 intro aa hS
 obtain ⟨ba, r, c, hTF, hS4, hR⟩ := (hR.pk (r := r16A _ b _ _ _) pkQ).r16E
 have hFl := hTF.len
 have hrc := (hR.pk (r := sls r _ _ _ _ _) pkQ).slsLe.1
 refine sA hS hR (Yld.load1 hS rfl Try.underlying107 rfl rdQ) (by decide) ?_; clear hS; intro aa hS
 refine sB (Bcall hS rfl Try.call83 (RTake_ok (A := T.A) (hR.pk (r := rar _ _ _ ba _) pkQ)) (by decide) ?_); clear hS; intro aa ww vv hS hp
 clear hR
 obtain ⟨rfl, hR⟩ := hp
 rw [Ar.top_eq he] at hS
 dsimp only at hS
 have hX := hTF.add (n := n) he hk hi hn
 have hrm := hTF.room (s := s) (by rw [he]; exact List.mem_cons_self)
 revert aa
 refine qM hR ?_
 refine qX hR ?_
 refine qX hR ?_
 intro aa hS
 refine sB (Balloc hS hR info112 (by rfl) (by rfl) (by decide) ?_); clear hS hR; intro aa ww bb11 hS hR
 refine sB (Bstore hS hR rfl rfl (by rfl) info112 (by rfl) pkQ (by rfl) (Nat.le_of_ble_eq_true rfl) ?_); clear hR; intro ww hR
 revert aa
 refine qN hR ?_
 intro aa hS
 refine wpList_nil ?_
 refine hK1021 _ _ ?_
 refine wp_seq_k ?_; intro K1022 hK1022
 refine wp_seq_k ?_; intro K1023 hK1023
 refine wp_region_lit ?_
 revert aa
 refine qM hR ?_
 refine qA hR rfl (fun _ hS => Yld.eql hS rfl rfl) ?_
 refine qB (t := 42) true rfl (by rfl) ?_
 intro aa hS
 refine wpList_nil ?_
 refine hK1023 _ _ ?_
 refine condT hS rfl ?_
 refine drawnL 15 krQ hR ?_; clear hR; intro ww hR; have hR0 := hR
 refine lA 0 rfl krQ krQ krQ krQ (fun _ _ _ h => h) hS hR0 (Yld.move hS rfl) (by decide) ?_; clear hS; intro aa hS
 refine lA 2 rfl krQ krQ krQ krQ (fun _ _ _ h => h) hS hR0 (Yld.move hS rfl) (by decide) ?_; clear hS; intro aa hS
 refine lA 3 rfl krQ krQ krQ krQ (fun _ _ _ h => h) hS hR0 (Yld.nilCheck hS rfl) (by decide) ?_; clear hS; intro aa hS
 refine lA 4 rfl krQ krQ krQ krQ (fun _ _ _ h => h) hS hR0 (Yld.fieldAddr hS rfl 0 Try.underlying111 rfl rfl info109 (by decide)) (by decide) ?_; clear hS; intro aa hS
 refine lA 5 rfl krQ krQ krQ krQ (fun _ _ _ h => h) hS hR0 (Yld.load1 hS rfl Try.underlying109 rfl rdQ) (by decide) ?_; clear hS; intro aa hS
 refine lA 7 rfl krQ krQ krQ krQ (fun _ _ _ h => h) hS hR0 (Yld.loadAgg hS rfl Try.underlying112 rfl info112 rdsQ2 (by rfl)) (by decide) ?_; clear hS; intro aa hS
 refine lA 8 rfl krQ krQ krQ krQ (fun _ _ _ h => h) hS hR0 (Yld.loadAgg hS rfl Try.underlying35 rfl info35 rdsQ5 (by rfl)) (by decide) ?_; clear hS; intro aa hS
 refine lA 9 rfl krQ krQ krQ krQ (fun _ _ _ h => h) hS hR0 (Yld.move hS rfl) (by decide) ?_; clear hS; intro aa hS
 refine lA 10 rfl krQ krQ krQ krQ (fun _ _ _ h => h) hS hR0 (Yld.build hS rfl (bld123_0_1_2 _ _ _ _ _ _ _ _)) (by decide) ?_; clear hS; intro aa hS
 refine lTwo (i := 1) (j := 11) krQ ?_ ?_
 ·
  refine dop rfl (BbuildSlice hS hR rfl (bls109_0_) (by decide) ?_); clear hS hR hR0; intro aa ww bb44 hS hR
  refine lnext (hR.sub exQ) ?_; intro hR0
  replace hR := hR.pk (r := blk bb44 _ _) pkQ
  replace hR := Sep.toRecs (m := 0) (sz := 8) (enc := eF) (([] : List Fl)) hR rfl (by intro _; rfl) rfl
  refine lTwo (i := 6) (j := 11) krQ ?_ ?_
  ·
   refine dop rfl (BappendR (sz := 8) hS hR rfl rfl Try.underlying109 info123 rfl rfl (by rfl) pkQ (XC.all pkQ) (by intro _; rfl) (by show (_ + _) * 40 ≤ _; exact lenQ) lenQ (by first | rfl | (simp; done) | (simp; omega)) (by decide) ?_); clear hS hR hR0; intro aa ww r49 c49 hS hR
   refine lnext (hR.sub exQ) ?_; intro hR0
   rw [List.nil_append] at hS hR
   refine lOne (i := 11) krQ ?_
   refine dop rfl (BbuildSlice hS hR rfl (bls109_1_0 _ _ _ _ _ _ _ _) (by decide) ?_); clear hS hR hR0; intro aa ww bb54 hS hR
   refine lnext (hR.sub exQ) ?_; intro hR0
   replace hR := hR.pk (r := blk bb54 _ _) pkQ
   replace hR := Sep.toRecs (m := 1) (sz := 8) (enc := eF) ([(⟨s, T.A.turn[s]?.getD 0, k, i⟩ : Fl)]) hR rfl (by intro _; rfl) rfl
   refine lOne (i := 12) krQ ?_
   refine dop rfl (BappendR (sz := 8) hS hR rfl rfl Try.underlying109 info123 rfl rfl (by rfl) pkQ (XC.all pkQ) (by intro _; rfl) (by show (_ + _) * 40 ≤ _; exact lenQ) lenQ (by first | rfl | (simp; done) | (simp; omega)) (by decide) ?_); clear hS hR hR0; intro aa ww r55 c55 hS hR
   refine lnext (hR.sub exQ) ?_; intro hR0
   refine lOne (i := 13) krQ ?_
   refine dop rfl (BA hS hR (Yld.nilCheck hS rfl) (by decide) ?_); clear hS; intro aa hS; refine ⟨fun _ => hR0, ?_⟩
   refine lA 14 rfl krQ krQ krQ krQ (fun _ _ _ h => h) hS hR0 (Yld.fieldAddr hS rfl 0 Try.underlying111 rfl rfl info109 (by decide)) (by decide) ?_; clear hS; intro aa hS
   refine lOne (i := 15) krQ ?_
   refine dop rfl (Bstore hS hR rfl rfl (by rfl) info109 (by rfl) pkQ (by rfl) (Nat.le_of_ble_eq_true rfl) ?_); clear hR hR0; intro ww hR
   refine lend ?_
   refine wpAnyL_done krQ ?_ _; try clear hR0
   refine hK1022 _ _ ?_
   refine wp_seq_k ?_; intro K1024 hK1024
   refine wp_region_lit ?_
   refine sA hS hR (Yld.loadAgg hS rfl Try.underlying112 rfl info112 rdsQ2 (by rfl)) (by decide) ?_; clear hS; intro aa hS
   revert aa
   refine qM hR ?_
   intro aa hS
   refine sB (Bstore hS hR rfl rfl (by rfl) info112 (by rfl) pkQ (by rfl) (Nat.le_of_ble_eq_true rfl) ?_); clear hR; intro ww hR
   revert aa
   refine qN hR ?_
   intro aa hS
   refine wpList_nil ?_
   refine hK1024 _ _ ?_
   refine wp_ret ?_
   repeat first | with_reducible refine thenR ?_ | with_reducible refine blockR ?_ | with_reducible refine scopeR ?_
   refine retN (fn := Try.f58) (e := .ret) (.inl rfl) Try.results58 hS hR ⟨_, .cons (.agg rfl Try.underlying112 rfl info112 (Rds.cons (Rd.blk pkQ (by rfl)) (Rds.cons (Rd.blk pkQ (by rfl)) (Rds.nil))) (by rfl)) (.cons (.tmp rfl) (.nil)), rfl, ?_⟩
   try dsimp only [lay, List.set] at hR
   exact ⟨rfl, Sep.r16I (t := rt) (b := b) (n := n) (F := (T.F ++ [⟨s, T.A.turn[s]?.getD 0, k, i⟩])) (A := T.A.take) hX hS4 rfl (hR.sub exQ)⟩
  ·
   refine dop rfl (BbuildSlice hS hR rfl (bls109_1_0 _ _ _ _ _ _ _ _) (by decide) ?_); clear hS hR hR0; intro aa ww bb54 hS hR
   refine lnext (hR.sub exQ) ?_; intro hR0
   replace hR := hR.pk (r := blk bb54 _ _) pkQ
   replace hR := Sep.toRecs (m := 1) (sz := 8) (enc := eF) ([(⟨s, T.A.turn[s]?.getD 0, k, i⟩ : Fl)]) hR rfl (by intro _; rfl) rfl
   refine lOne (i := 6) krQ ?_
   refine dop rfl (BappendR (sz := 8) hS hR rfl rfl Try.underlying109 info123 rfl rfl (by rfl) pkQ (XC.all pkQ) (by intro _; rfl) (by show (_ + _) * 40 ≤ _; exact lenQ) lenQ (by first | rfl | (simp; done) | (simp; omega)) (by decide) ?_); clear hS hR hR0; intro aa ww r49 c49 hS hR
   refine lnext (hR.sub exQ) ?_; intro hR0
   rw [List.nil_append] at hS hR
   refine lOne (i := 12) krQ ?_
   refine dop rfl (BappendR (sz := 8) hS hR rfl rfl Try.underlying109 info123 rfl rfl (by rfl) pkQ (XC.all pkQ) (by intro _; rfl) (by show (_ + _) * 40 ≤ _; exact lenQ) lenQ (by first | rfl | (simp; done) | (simp; omega)) (by decide) ?_); clear hS hR hR0; intro aa ww r55 c55 hS hR
   refine lnext (hR.sub exQ) ?_; intro hR0
   refine lOne (i := 13) krQ ?_
   refine dop rfl (BA hS hR (Yld.nilCheck hS rfl) (by decide) ?_); clear hS; intro aa hS; refine ⟨fun _ => hR0, ?_⟩
   refine lA 14 rfl krQ krQ krQ krQ (fun _ _ _ h => h) hS hR0 (Yld.fieldAddr hS rfl 0 Try.underlying111 rfl rfl info109 (by decide)) (by decide) ?_; clear hS; intro aa hS
   refine lOne (i := 15) krQ ?_
   refine dop rfl (Bstore hS hR rfl rfl (by rfl) info109 (by rfl) pkQ (by rfl) (Nat.le_of_ble_eq_true rfl) ?_); clear hR hR0; intro ww hR
   refine lend ?_
   refine wpAnyL_done krQ ?_ _; try clear hR0
   refine hK1022 _ _ ?_
   refine wp_seq_k ?_; intro K1025 hK1025
   refine wp_region_lit ?_
   refine sA hS hR (Yld.loadAgg hS rfl Try.underlying112 rfl info112 rdsQ2 (by rfl)) (by decide) ?_; clear hS; intro aa hS
   revert aa
   refine qM hR ?_
   intro aa hS
   refine sB (Bstore hS hR rfl rfl (by rfl) info112 (by rfl) pkQ (by rfl) (Nat.le_of_ble_eq_true rfl) ?_); clear hR; intro ww hR
   revert aa
   refine qN hR ?_
   intro aa hS
   refine wpList_nil ?_
   refine hK1025 _ _ ?_
   refine wp_ret ?_
   repeat first | with_reducible refine thenR ?_ | with_reducible refine blockR ?_ | with_reducible refine scopeR ?_
   refine retN (fn := Try.f58) (e := .ret) (.inl rfl) Try.results58 hS hR ⟨_, .cons (.agg rfl Try.underlying112 rfl info112 (Rds.cons (Rd.blk pkQ (by rfl)) (Rds.cons (Rd.blk pkQ (by rfl)) (Rds.nil))) (by rfl)) (.cons (.tmp rfl) (.nil)), rfl, ?_⟩
   try dsimp only [lay, List.set] at hR
   exact ⟨rfl, Sep.r16I (t := rt) (b := b) (n := n) (F := (T.F ++ [⟨s, T.A.turn[s]?.getD 0, k, i⟩])) (A := T.A.take) hX hS4 rfl (hR.sub exQ)⟩
 ·
  refine dop rfl (BbuildSlice hS hR rfl (bls109_1_0 _ _ _ _ _ _ _ _) (by decide) ?_); clear hS hR hR0; intro aa ww bb54 hS hR
  refine lnext (hR.sub exQ) ?_; intro hR0
  replace hR := hR.pk (r := blk bb54 _ _) pkQ
  replace hR := Sep.toRecs (m := 1) (sz := 8) (enc := eF) ([(⟨s, T.A.turn[s]?.getD 0, k, i⟩ : Fl)]) hR rfl (by intro _; rfl) rfl
  refine lOne (i := 1) krQ ?_
  refine dop rfl (BbuildSlice hS hR rfl (bls109_0_) (by decide) ?_); clear hS hR hR0; intro aa ww bb44 hS hR
  refine lnext (hR.sub exQ) ?_; intro hR0
  replace hR := hR.pk (r := blk bb44 _ _) pkQ
  replace hR := Sep.toRecs (m := 0) (sz := 8) (enc := eF) (([] : List Fl)) hR rfl (by intro _; rfl) rfl
  refine lOne (i := 6) krQ ?_
  refine dop rfl (BappendR (sz := 8) hS hR rfl rfl Try.underlying109 info123 rfl rfl (by rfl) pkQ (XC.all pkQ) (by intro _; rfl) (by show (_ + _) * 40 ≤ _; exact lenQ) lenQ (by first | rfl | (simp; done) | (simp; omega)) (by decide) ?_); clear hS hR hR0; intro aa ww r49 c49 hS hR
  refine lnext (hR.sub exQ) ?_; intro hR0
  rw [List.nil_append] at hS hR
  refine lOne (i := 12) krQ ?_
  refine dop rfl (BappendR (sz := 8) hS hR rfl rfl Try.underlying109 info123 rfl rfl (by rfl) pkQ (XC.all pkQ) (by intro _; rfl) (by show (_ + _) * 40 ≤ _; exact lenQ) lenQ (by first | rfl | (simp; done) | (simp; omega)) (by decide) ?_); clear hS hR hR0; intro aa ww r55 c55 hS hR
  refine lnext (hR.sub exQ) ?_; intro hR0
  refine lOne (i := 13) krQ ?_
  refine dop rfl (BA hS hR (Yld.nilCheck hS rfl) (by decide) ?_); clear hS; intro aa hS; refine ⟨fun _ => hR0, ?_⟩
  refine lA 14 rfl krQ krQ krQ krQ (fun _ _ _ h => h) hS hR0 (Yld.fieldAddr hS rfl 0 Try.underlying111 rfl rfl info109 (by decide)) (by decide) ?_; clear hS; intro aa hS
  refine lOne (i := 15) krQ ?_
  refine dop rfl (Bstore hS hR rfl rfl (by rfl) info109 (by rfl) pkQ (by rfl) (Nat.le_of_ble_eq_true rfl) ?_); clear hR hR0; intro ww hR
  refine lend ?_
  refine wpAnyL_done krQ ?_ _; try clear hR0
  refine hK1022 _ _ ?_
  refine wp_seq_k ?_; intro K1026 hK1026
  refine wp_region_lit ?_
  refine sA hS hR (Yld.loadAgg hS rfl Try.underlying112 rfl info112 rdsQ2 (by rfl)) (by decide) ?_; clear hS; intro aa hS
  revert aa
  refine qM hR ?_
  intro aa hS
  refine sB (Bstore hS hR rfl rfl (by rfl) info112 (by rfl) pkQ (by rfl) (Nat.le_of_ble_eq_true rfl) ?_); clear hR; intro ww hR
  revert aa
  refine qN hR ?_
  intro aa hS
  refine wpList_nil ?_
  refine hK1026 _ _ ?_
  refine wp_ret ?_
  repeat first | with_reducible refine thenR ?_ | with_reducible refine blockR ?_ | with_reducible refine scopeR ?_
  refine retN (fn := Try.f58) (e := .ret) (.inl rfl) Try.results58 hS hR ⟨_, .cons (.agg rfl Try.underlying112 rfl info112 (Rds.cons (Rd.blk pkQ (by rfl)) (Rds.cons (Rd.blk pkQ (by rfl)) (Rds.nil))) (by rfl)) (.cons (.tmp rfl) (.nil)), rfl, ?_⟩
  try dsimp only [lay, List.set] at hR
  exact ⟨rfl, Sep.r16I (t := rt) (b := b) (n := n) (F := (T.F ++ [⟨s, T.A.turn[s]?.getD 0, k, i⟩])) (A := T.A.take) hX hS4 rfl (hR.sub exQ)⟩
theorem RfAdd_ok {T : Tb} {S n b : Nat} {l : List HP} {w : World} {k : Ky} {i : Int} (hk : WfK k) (hR : Sep (r16A rt b S n T :: l) w) : CallR Try.prog 58 [.pointer (some ⟨b, 0, none⟩), vK k, .int .i64 i] w (fun v w' => v = .tuple [vH (addR T n k i).1.1 (addR T n k i).1.2, .int .i64 (addR T n k i).2].toArray ∧ Sep (r16A rt b S n (addN T n k i) :: l) w') := by
 by_cases hi : 0 ≤ i ∧ i < n
 ·
  obtain ⟨j, rfl⟩ : ∃ j : Nat, i = j := ⟨i.toNat, by omega⟩
  cases hf : fndK T.F k with
  | some f => rw [(addR_has hi hf).1, (addR_has hi hf).2]; exact RfAdd_has (by omega) hf hk hR
  | none =>
   cases he : T.A.free with
   | nil => rw [(addR_full hi hf he).1, (addR_full hi hf he).2]; exact RfAdd_full (by omega) hf he hk hR
   | cons s fs => rw [(addR_new (by omega) hf he).1, (addR_new (by omega) hf he).2]; exact RfAdd_new (by omega) hf he hk hR
 ·
  rw [(addR_bad hi).1, (addR_bad hi).2]; exact RfAdd_bad hi hk hR
set_option maxHeartbeats 1000000 in
theorem RfOut_no {T : Tb} {S n b : Nat} {l : List HP} {w : World} {s u : Int} (hn : getF T.F s u = none) (hR : Sep (r16A rt b S n T :: l) w) : CallR Try.prog 59 [.pointer (some ⟨b, 0, none⟩), .agg [.int .i64 s, .int .i64 u].toArray] w (fun v w' => v = .tuple [vK k0, .int .i64 6].toArray ∧ Sep (r16A rt b S n T :: l) w') := by
 refine enter Try.func59 rfl Try.ntmps59 (Nat.le_of_ble_eq_true rfl) ?_; intro aa hS
 refine wp_seq_k ?_; intro K1027 hK1027
 refine wp_region_lit ?_
 refine sB (Bbox hS hR rfl (by rfl) (by decide) ?_); clear hS hR; intro aa ww bb3 hS hR
 refine sB (Balloc hS hR info35 (by rfl) (by rfl) (by decide) ?_); clear hS hR; intro aa ww bb4 hS hR
 revert aa
 refine qN hR ?_
 intro aa hS
 refine wpList_nil ?_
 refine hK1027 _ _ ?_
 refine wp_seq_k ?_; intro K1028 hK1028
 refine wp_region_lit ?_
 revert aa
 refine qM hR ?_
 intro aa hS
 refine sA hS hR (Yld.loadAgg hS rfl Try.underlying112 rfl info112 rdsQ2 (by rfl)) (by decide) ?_; clear hS; intro aa hS
 refine sB (Bcall hS rfl Try.call63 (RfAt_ok (s := s) (u := u) (hR.pk (r := r16A _ b _ _ _) pkQ)) (by decide) ?_); clear hS; intro aa ww vv hS hp
 clear hR
 obtain ⟨rfl, hR⟩ := hp
 unfold atF at hS
 rw [hn] at hS
 dsimp only [Option.getD, Option.isSome] at hS
 revert aa
 refine qM hR ?_
 refine qX hR ?_
 refine qX hR ?_
 refine qB (t := 13) false rfl (by rfl) ?_
 intro aa hS
 refine sB (Balloc hS hR info123 (by rfl) (by rfl) (by decide) ?_); clear hS hR; intro aa ww bb6 hS hR
 refine sB (Bstore hS hR rfl rfl (by rfl) info123 (by rfl) pkQ (by rfl) (Nat.le_of_ble_eq_true rfl) ?_); clear hR; intro ww hR
 revert aa
 refine qN hR ?_
 intro aa hS
 refine wpList_nil ?_
 refine hK1028 _ _ ?_
 refine wp_seq_k ?_; intro K1029 hK1029
 refine wp_seq_k ?_; intro K1030 hK1030
 refine wp_region_lit ?_
 revert aa
 refine qM hR ?_
 refine qA hR rfl (fun _ hS => Yld.not hS rfl) ?_
 intro aa hS
 refine wpList_nil ?_
 refine hK1030 _ _ ?_
 refine condT hS rfl ?_
 refine wp_seq_k ?_; intro K1031 hK1031
 refine wp_region_lit ?_
 refine sA hS hR (Yld.build hS rfl (bld35_)) (by decide) ?_; clear hS; intro aa hS
 refine sB (Bstore hS hR rfl rfl (by rfl) info35 (by rfl) pkQ (by rfl) (Nat.le_of_ble_eq_true rfl) ?_); clear hR; intro ww hR
 revert aa
 refine qN hR ?_
 intro aa hS
 refine wpList_nil ?_
 refine hK1031 _ _ ?_
 refine wp_ret ?_
 repeat first | with_reducible refine thenR ?_ | with_reducible refine blockR ?_ | with_reducible refine scopeR ?_
 refine retN (fn := Try.f59) (e := .ret) (.inl rfl) Try.results59 hS hR ⟨_, .cons (.agg rfl Try.underlying35 rfl info35 (Rds.cons (Rd.blk pkQ (by rfl)) (Rds.cons (Rd.blk pkQ (by rfl)) (Rds.cons (Rd.blk pkQ (by rfl)) (Rds.cons (Rd.blk pkQ (by rfl)) (Rds.cons (Rd.blk pkQ (by rfl)) (Rds.nil)))))) (by rfl)) (.cons (.tmp rfl) (.nil)), rfl, ?_⟩
 try dsimp only [lay, List.set] at hR
 exact ⟨rfl, (hR.sub exQ)⟩
set_option maxHeartbeats 1000000 in
theorem RfOut_yes {T : Tb} {S n b : Nat} {l : List HP} {w : World} {f : Fl} (hf : f ∈ T.F) (hR : Sep (r16A rt b S n T :: l) w) : CallR Try.prog 59 [.pointer (some ⟨b, 0, none⟩), .agg [.int .i64 (f.s : Int), .int .i64 f.u].toArray] w (fun v w' => v = .tuple [vK f.k, .int .i64 0].toArray ∧ Sep (r16A rt b S n (T.out f.s) :: l) w') := by
 refine enter Try.func59 rfl Try.ntmps59 (Nat.le_of_ble_eq_true rfl) ?_; intro aa hS
 obtain ⟨ba0, r0, c0, hTF0, hS40, hR0⟩ := (hR.pk (r := r16A _ b _ _ _) pkQ).r16E
 clear hR0
 have hgf : getF T.F (f.s : Int) f.u = some f := (getF_mem hTF0).2 ⟨hf, rfl, rfl⟩
 refine wp_seq_k ?_; intro K1032 hK1032
 refine wp_region_lit ?_
 refine sB (Bbox hS hR rfl (by rfl) (by decide) ?_); clear hS hR; intro aa ww bb3 hS hR
 refine sB (Balloc hS hR info35 (by rfl) (by rfl) (by decide) ?_); clear hS hR; intro aa ww bb4 hS hR
 revert aa
 refine qN hR ?_
 intro aa hS
 refine wpList_nil ?_
 refine hK1032 _ _ ?_
 refine wp_seq_k ?_; intro K1033 hK1033
 refine wp_region_lit ?_
 revert aa
 refine qM hR ?_
 intro aa hS
 refine sA hS hR (Yld.loadAgg hS rfl Try.underlying112 rfl info112 rdsQ2 (by rfl)) (by decide) ?_; clear hS; intro aa hS
 refine sB (Bcall hS rfl Try.call63 (RfAt_ok (s := (f.s : Int)) (u := f.u) (hR.pk (r := r16A _ b _ _ _) pkQ)) (by decide) ?_); clear hS; intro aa ww vv hS hp
 clear hR
 obtain ⟨rfl, hR⟩ := hp
 unfold atF at hS
 rw [hgf] at hS
 dsimp only [Option.getD, Option.isSome] at hS
 revert aa
 refine qM hR ?_
 refine qX hR ?_
 refine qX hR ?_
 refine qB (t := 13) true rfl (by rfl) ?_
 intro aa hS
 refine sB (Balloc hS hR info123 (by rfl) (by rfl) (by decide) ?_); clear hS hR; intro aa ww bb6 hS hR
 refine sB (Bstore hS hR rfl rfl (by rfl) info123 (by rfl) pkQ (by rfl) (Nat.le_of_ble_eq_true rfl) ?_); clear hR; intro ww hR
 revert aa
 refine qN hR ?_
 intro aa hS
 refine wpList_nil ?_
 refine hK1033 _ _ ?_
 refine wp_seq_k ?_; intro K1034 hK1034
 refine wp_seq_k ?_; intro K1035 hK1035
 refine wp_region_lit ?_
 revert aa
 refine qM hR ?_
 refine qA hR rfl (fun _ hS => Yld.not hS rfl) ?_
 intro aa hS
 refine wpList_nil ?_
 refine hK1035 _ _ ?_
 refine condF hS rfl ?_
 refine wp_skip ?_
 refine hK1034 _ _ ?_
 refine wp_seq_k ?_; intro K1036 hK1036
 refine wp_region_lit ?_
 revert aa
 refine qM hR ?_
 refine qM hR ?_
 intro aa hS
 refine sA hS hR (Yld.loadAgg hS rfl Try.underlying112 rfl info112 rdsQ2 (by rfl)) (by decide) ?_; clear hS; intro aa hS
 refine sB (Bcall hS rfl Try.call84 (RfWio_ok (s := (f.s : Int)) (u := f.u) (hR.pk (r := r16A _ b _ _ _) pkQ)) (by decide) ?_); clear hS; intro aa ww vv hS hp
 clear hR
 obtain ⟨rw0, cw0, rfl, hR⟩ := hp
 obtain ⟨ba, r, c, hTF, hS4, hR⟩ := (hR.pk (r := r16A _ b _ _ _) pkQ).r16E
 have hFl := hTF.len
 have hrc := (hR.pk (r := sls r _ _ _ _ _) pkQ).slsLe.1
 rw [hTF.wio hf] at hS hR
 have hat := hTF.atf hf
 have hol : (T.F.filter fun g => decide (g.s ≠ f.s)).length ≤ T.F.length := List.length_filter_le _ _
 revert aa
 refine qA hR rfl (fun _ hS => Yld.nilCheck hS rfl) ?_
 refine qA hR rfl (fun _ hS => Yld.fieldAddr hS rfl 0 Try.underlying111 rfl rfl info109 (by decide)) ?_
 intro aa hS
 refine sB (Bstore hS hR rfl rfl (by rfl) info109 (by rfl) pkQ (by rfl) (Nat.le_of_ble_eq_true rfl) ?_); clear hR; intro ww hR
 refine wpList_nil ?_
 refine hK1036 _ _ ?_
 refine wp_seq_k ?_; intro K1037 hK1037
 dsimp only [lay, List.set] at hR
 refine drawn krQ hR (Ex.of_pk2 (r := rar _ _ _ ba _) (s := blk bb4 _ _) pkQ pkQ) ?_; clear hR; intro ww hR hR0
 revert aa
 refine eA 0 rfl krQ (fun _ _ _ h => h) hR0 rfl (fun _ hS => Yld.fieldAddr hS rfl 2 Try.underlying123 rfl rfl info35 (by decide)) ?_
 intro aa hS
 refine dA 1 rfl krQ krQ krQ (fun _ _ _ h => h) hS hR0 (Yld.loadAgg hS rfl Try.underlying35 rfl info35 rdsQ5 (by rfl)) (by decide) ?_; clear hS; intro aa hS
 revert aa
 refine eA 2 rfl krQ (fun _ _ _ h => h) hR0 rfl (fun _ hS => Yld.move hS rfl) ?_
 refine eA 3 rfl krQ (fun _ _ _ h => h) hR0 rfl (fun _ hS => Yld.nilCheck hS rfl) ?_
 refine eA 4 rfl krQ (fun _ _ _ h => h) hR0 rfl (fun _ hS => Yld.fieldAddr hS rfl 1 Try.underlying111 rfl rfl info107 (by decide)) ?_
 refine eA 5 rfl krQ (fun _ _ _ h => h) hR0 rfl (fun _ hS => Yld.load1 hS rfl Try.underlying107 rfl rdQ) ?_
 intro aa hS
 refine dA 6 rfl krQ krQ krQ (fun _ _ _ h => h) hS hR0 (Yld.loadAgg hS rfl Try.underlying112 rfl info112 rdsQ2 (by rfl)) (by decide) ?_; clear hS; intro aa hS
 refine dOne (i := 7) krQ ?_
 refine dop rfl (Bcall hS rfl Try.call85 (RGive_ok (A := T.A) (s := (f.s : Int)) (u := f.u) (hR.pk (r := rar _ _ _ ba _) pkQ)) (by decide) ?_); clear hS; intro aa ww vv hS hp
 clear hR hR0
 obtain ⟨rfl, hR⟩ := hp
 rw [Ar.giveH_yes hat] at hR; rw [show T.A.giveE (f.s : Int) f.u = 0 from if_pos hat] at hS
 refine dnext (hR.sub exQ) ?_; intro hR0
 refine dOne (i := 8) krQ ?_
 refine dop rfl (Bstore hS hR rfl rfl (by rfl) info35 (by rfl) pkQ (by rfl) (Nat.le_of_ble_eq_true rfl) ?_); clear hR hR0; intro ww hR
 refine dnext (hR.sub exQ) ?_; intro hR0
 revert aa
 refine eA 9 rfl krQ (fun _ _ _ h => h) hR0 rfl (fun _ hS => Yld.assign hS rfl) ?_
 intro aa hS
 refine wpAnyH_done krQ ?_ _; clear hR0
 refine hK1037 _ _ ?_
 refine wp_ret ?_
 repeat first | with_reducible refine thenR ?_ | with_reducible refine blockR ?_ | with_reducible refine scopeR ?_
 refine retN (fn := Try.f59) (e := .ret) (.inl rfl) Try.results59 hS hR ⟨_, .cons (.agg rfl Try.underlying35 rfl info35 (Rds.cons (Rd.blk pkQ (by rfl)) (Rds.cons (Rd.blk pkQ (by rfl)) (Rds.cons (Rd.blk pkQ (by rfl)) (Rds.cons (Rd.blk pkQ (by rfl)) (Rds.cons (Rd.blk pkQ (by rfl)) (Rds.nil)))))) (by rfl)) (.cons (.tmp rfl) (.nil)), rfl, ?_⟩
 try dsimp only [lay, List.set] at hR
 exact ⟨rfl, Sep.r16I (t := rt) (b := b) (n := n) (F := (T.F.filter fun g => decide (g.s ≠ f.s))) (A := (T.A.give f.s)) (hTF.out hf) hS4 rfl (hR.sub exQ)⟩
theorem RfOut_ok {T : Tb} {S n b : Nat} {l : List HP} {w : World} {s u : Int} (hR : Sep (r16A rt b S n T :: l) w) : CallR Try.prog 59 [.pointer (some ⟨b, 0, none⟩), .agg [.int .i64 s, .int .i64 u].toArray] w (fun v w' => v = .tuple [vK (outR T s u).1, .int .i64 (outR T s u).2].toArray ∧ Sep (r16A rt b S n (outN T s u) :: l) w') := by
 obtain ⟨ba0, r0, c0, hTF, hS40, hR0⟩ := hR.r16E
 clear hR0
 unfold outR outN
 cases hg : getF T.F s u with
 | none => exact RfOut_no hg hR
 | some f =>
  obtain ⟨hf, h1, h2⟩ := (getF_mem hTF).1 hg
  subst h1 h2
  exact RfOut_yes hf hR
theorem RfMove_bad {T : Tb} {S n b : Nat} {l : List HP} {w : World} {s u i : Int} (hi : ¬ (0 ≤ i ∧ i < n)) (hR : Sep (r16A rt b S n T :: l) w) : CallR Try.prog 60 [.pointer (some ⟨b, 0, none⟩), .agg [.int .i64 s, .int .i64 u].toArray, .int .i64 i] w (fun v w' => v = .int .i64 2 ∧ Sep (r16A rt b S n T :: l) w') := by
 refine enter Try.func60 rfl Try.ntmps60 (Nat.le_of_ble_eq_true rfl) ?_; intro aa hS
 obtain ⟨ba, r, c, hTF, hS4, hR⟩ := (hR.pk (r := r16A _ b _ _ _) pkQ).r16E
 have hFl := hTF.len
 have hrc := (hR.pk (r := sls r _ _ _ _ _) pkQ).slsLe.1
 refine wp_seq_k ?_; intro K1038 hK1038
 refine wp_region_lit ?_
 refine sB (Bbox hS hR rfl (by rfl) (by decide) ?_); clear hS hR; intro aa ww bb4 hS hR
 revert aa
 refine qN hR ?_
 intro aa hS
 refine wpList_nil ?_
 refine hK1038 _ _ ?_
 refine wp_seq_k ?_; intro K1039 hK1039
 refine wp_seq_k ?_; intro K1040 hK1040
 refine wp_region_lit ?_
 revert aa
 refine qM hR ?_
 refine qA hR rfl (fun _ hS => Yld.lss hS rfl rfl) ?_
 refine qM hR ?_
 intro aa hS
 refine hS.splitB (t := 11) rfl ?_ ?_ <;> clear hS
 ·
  intro hg hS
  revert aa
  refine qZ ?_
  refine qZ ?_
  refine qZ ?_
  refine qZ ?_
  refine qZ ?_
  refine qZ ?_
  refine qA hR rfl (fun _ hS => Yld.pickT hS rfl rfl) ?_
  intro aa hS
  refine wpList_nil ?_
  refine hK1040 _ _ ?_
  refine condT hS rfl ?_
  refine wp_seq_k ?_; intro K1041 hK1041
  refine wp_region_lit ?_
  revert aa
  refine qN hR ?_
  intro aa hS
  refine wpList_nil ?_
  refine hK1041 _ _ ?_
  refine wp_ret ?_
  repeat first | with_reducible refine thenR ?_ | with_reducible refine blockR ?_ | with_reducible refine scopeR ?_
  refine ret1 (fn := Try.f60) (e := .ret) (.inl rfl) Try.results60 hS hR ⟨_, (.tmp rfl), ?_⟩
  exact ⟨rfl, Sep.r16J (t := rt) (b := b) (n := n) (T := T) hTF hS4 (hR.sub exQ)⟩
 ·
  intro hg hS
  revert aa
  refine qMg hR ?_
  refine qMg hR ?_
  refine qAg hR rfl rfl rfl (fun _ hS => Yld.nilCheck hS rfl) ?_
  refine qAg hR rfl rfl rfl (fun _ hS => Yld.fieldAddr hS rfl 2 Try.underlying111 rfl rfl info3 (by decide)) ?_
  refine qAg hR rfl rfl rfl (fun _ hS => Yld.load1 hS rfl Try.underlying3 rfl rdQ) ?_
  refine qAg hR rfl rfl rfl (fun _ hS => Yld.geq hS rfl rfl) ?_
  refine qA hR rfl (fun _ hS => Yld.pickF hS rfl rfl) ?_
  intro aa hS
  refine wpList_nil ?_
  refine hK1040 _ _ ?_
  refine hS.splitB (t := 18) rfl ?_ ?_ <;> clear hS
  ·
   intro hg hS
   refine condT hS rfl ?_
   refine wp_seq_k ?_; intro K1042 hK1042
   refine wp_region_lit ?_
   revert aa
   refine qN hR ?_
   intro aa hS
   refine wpList_nil ?_
   refine hK1042 _ _ ?_
   refine wp_ret ?_
   repeat first | with_reducible refine thenR ?_ | with_reducible refine blockR ?_ | with_reducible refine scopeR ?_
   refine ret1 (fn := Try.f60) (e := .ret) (.inl rfl) Try.results60 hS hR ⟨_, (.tmp rfl), ?_⟩
   exact ⟨rfl, Sep.r16J (t := rt) (b := b) (n := n) (T := T) hTF hS4 (hR.sub exQ)⟩
  ·
   intro hg hS
   omega
theorem RfMove_no {T : Tb} {S n b : Nat} {l : List HP} {w : World} {i : Nat} {s u : Int} (hi : i < n) (hn : getF T.F s u = none) (hR : Sep (r16A rt b S n T :: l) w) : CallR Try.prog 60 [.pointer (some ⟨b, 0, none⟩), .agg [.int .i64 s, .int .i64 u].toArray, .int .i64 (i : Int)] w (fun v w' => v = .int .i64 6 ∧ Sep (r16A rt b S n T :: l) w') := by
 refine enter Try.func60 rfl Try.ntmps60 (Nat.le_of_ble_eq_true rfl) ?_; intro aa hS
 obtain ⟨ba, r, c, hTF, hS4, hR⟩ := (hR.pk (r := r16A _ b _ _ _) pkQ).r16E
 have hFl := hTF.len
 have hrc := (hR.pk (r := sls r _ _ _ _ _) pkQ).slsLe.1
 refine wp_seq_k ?_; intro K1043 hK1043
 refine wp_region_lit ?_
 refine sB (Bbox hS hR rfl (by rfl) (by decide) ?_); clear hS hR; intro aa ww bb4 hS hR
 revert aa
 refine qN hR ?_
 intro aa hS
 refine wpList_nil ?_
 refine hK1043 _ _ ?_
 refine wp_seq_k ?_; intro K1044 hK1044
 refine wp_seq_k ?_; intro K1045 hK1045
 refine wp_region_lit ?_
 revert aa
 refine qM hR ?_
 refine qA hR rfl (fun _ hS => Yld.lss hS rfl rfl) ?_
 refine qB (t := 10) false rfl (by exact decide_eq_false (by omega)) ?_
 refine qM hR ?_
 refine qMg hR ?_
 refine qMg hR ?_
 refine qAg hR rfl rfl rfl (fun _ hS => Yld.nilCheck hS rfl) ?_
 refine qAg hR rfl rfl rfl (fun _ hS => Yld.fieldAddr hS rfl 2 Try.underlying111 rfl rfl info3 (by decide)) ?_
 refine qAg hR rfl rfl rfl (fun _ hS => Yld.load1 hS rfl Try.underlying3 rfl rdQ) ?_
 refine qAg hR rfl rfl rfl (fun _ hS => Yld.geq hS rfl rfl) ?_
 refine qB (t := 17) false rfl (by exact decide_eq_false (by omega)) ?_
 refine qA hR rfl (fun _ hS => Yld.pickF hS rfl rfl) ?_
 intro aa hS
 refine wpList_nil ?_
 refine hK1045 _ _ ?_
 refine condF hS rfl ?_
 refine wp_skip ?_
 refine hK1044 _ _ ?_
 refine wp_seq_k ?_; intro K1046 hK1046
 refine wp_region_lit ?_
 revert aa
 refine qM hR ?_
 intro aa hS
 refine sA hS hR (Yld.loadAgg hS rfl Try.underlying112 rfl info112 rdsQ2 (by rfl)) (by decide) ?_; clear hS; intro aa hS
 replace hR := Sep.r16J (t := rt) (b := b) (n := n) (T := T) hTF hS4 (hR.sub exQ)
 refine sB (Bcall hS rfl Try.call63 (RfAt_ok (s := s) (u := u) (hR.pk (r := r16A _ b _ _ _) pkQ)) (by decide) ?_); clear hS; intro aa ww vv hS hp
 clear hR
 obtain ⟨rfl, hR⟩ := hp
 unfold atF at hS
 rw [hn] at hS
 dsimp only [Option.getD, Option.isSome] at hS
 revert aa
 refine qM hR ?_
 refine qX hR ?_
 refine qX hR ?_
 refine qB (t := 24) false rfl (by rfl) ?_
 intro aa hS
 refine sB (Balloc hS hR info123 (by rfl) (by rfl) (by decide) ?_); clear hS hR; intro aa ww bb7 hS hR
 refine sB (Bstore hS hR rfl rfl (by rfl) info123 (by rfl) pkQ (by rfl) (Nat.le_of_ble_eq_true rfl) ?_); clear hR; intro ww hR
 revert aa
 refine qN hR ?_
 intro aa hS
 refine wpList_nil ?_
 refine hK1046 _ _ ?_
 refine wp_seq_k ?_; intro K1047 hK1047
 refine wp_seq_k ?_; intro K1048 hK1048
 refine wp_region_lit ?_
 revert aa
 refine qM hR ?_
 refine qA hR rfl (fun _ hS => Yld.not hS rfl) ?_
 intro aa hS
 refine wpList_nil ?_
 refine hK1048 _ _ ?_
 refine condT hS rfl ?_
 refine wp_seq_k ?_; intro K1049 hK1049
 refine wp_region_lit ?_
 revert aa
 refine qN hR ?_
 intro aa hS
 refine wpList_nil ?_
 refine hK1049 _ _ ?_
 refine wp_ret ?_
 repeat first | with_reducible refine thenR ?_ | with_reducible refine blockR ?_ | with_reducible refine scopeR ?_
 refine ret1 (fn := Try.f60) (e := .ret) (.inl rfl) Try.results60 hS hR ⟨_, (.tmp rfl), ?_⟩
 exact ⟨rfl, (hR.sub exQ)⟩
set_option maxHeartbeats 1000000 in
theorem RfMove_yes {T : Tb} {S n b : Nat} {l : List HP} {w : World} {i : Nat} {f : Fl} (hi : i < n) (hf : f ∈ T.F) (hR : Sep (r16A rt b S n T :: l) w) : CallR Try.prog 60 [.pointer (some ⟨b, 0, none⟩), .agg [.int .i64 (f.s : Int), .int .i64 f.u].toArray, .int .i64 (i : Int)] w (fun v w' => v = .int .i64 0 ∧ Sep (r16A rt b S n (T.move f i) :: l) w') := by
 refine enter Try.func60 rfl Try.ntmps60 (Nat.le_of_ble_eq_true rfl) ?_; intro aa hS
 obtain ⟨ba0, r0, c0, hTF0, hS40, hR0⟩ := (hR.pk (r := r16A _ b _ _ _) pkQ).r16E
 clear hR0
 have hgf : getF T.F (f.s : Int) f.u = some f := (getF_mem hTF0).2 ⟨hf, rfl, rfl⟩
 obtain ⟨ba, r, c, hTF, hS4, hR⟩ := (hR.pk (r := r16A _ b _ _ _) pkQ).r16E
 have hFl := hTF.len
 have hrc := (hR.pk (r := sls r _ _ _ _ _) pkQ).slsLe.1
 refine wp_seq_k ?_; intro K1050 hK1050
 refine wp_region_lit ?_
 refine sB (Bbox hS hR rfl (by rfl) (by decide) ?_); clear hS hR; intro aa ww bb4 hS hR
 revert aa
 refine qN hR ?_
 intro aa hS
 refine wpList_nil ?_
 refine hK1050 _ _ ?_
 refine wp_seq_k ?_; intro K1051 hK1051
 refine wp_seq_k ?_; intro K1052 hK1052
 refine wp_region_lit ?_
 revert aa
 refine qM hR ?_
 refine qA hR rfl (fun _ hS => Yld.lss hS rfl rfl) ?_
 refine qB (t := 10) false rfl (by exact decide_eq_false (by omega)) ?_
 refine qM hR ?_
 refine qMg hR ?_
 refine qMg hR ?_
 refine qAg hR rfl rfl rfl (fun _ hS => Yld.nilCheck hS rfl) ?_
 refine qAg hR rfl rfl rfl (fun _ hS => Yld.fieldAddr hS rfl 2 Try.underlying111 rfl rfl info3 (by decide)) ?_
 refine qAg hR rfl rfl rfl (fun _ hS => Yld.load1 hS rfl Try.underlying3 rfl rdQ) ?_
 refine qAg hR rfl rfl rfl (fun _ hS => Yld.geq hS rfl rfl) ?_
 refine qB (t := 17) false rfl (by exact decide_eq_false (by omega)) ?_
 refine qA hR rfl (fun _ hS => Yld.pickF hS rfl rfl) ?_
 intro aa hS
 refine wpList_nil ?_
 refine hK1052 _ _ ?_
 refine condF hS rfl ?_
 refine wp_skip ?_
 refine hK1051 _ _ ?_
 refine wp_seq_k ?_; intro K1053 hK1053
 refine wp_region_lit ?_
 revert aa
 refine qM hR ?_
 intro aa hS
 refine sA hS hR (Yld.loadAgg hS rfl Try.underlying112 rfl info112 rdsQ2 (by rfl)) (by decide) ?_; clear hS; intro aa hS
 replace hR := Sep.r16J (t := rt) (b := b) (n := n) (T := T) hTF hS4 (hR.sub exQ)
 refine sB (Bcall hS rfl Try.call63 (RfAt_ok (s := (f.s : Int)) (u := f.u) (hR.pk (r := r16A _ b _ _ _) pkQ)) (by decide) ?_); clear hS; intro aa ww vv hS hp
 clear hR
 obtain ⟨rfl, hR⟩ := hp
 unfold atF at hS
 rw [hgf] at hS
 dsimp only [Option.getD, Option.isSome] at hS
 revert aa
 refine qM hR ?_
 refine qX hR ?_
 refine qX hR ?_
 refine qB (t := 24) true rfl (by rfl) ?_
 intro aa hS
 refine sB (Balloc hS hR info123 (by rfl) (by rfl) (by decide) ?_); clear hS hR; intro aa ww bb7 hS hR
 refine sB (Bstore hS hR rfl rfl (by rfl) info123 (by rfl) pkQ (by rfl) (Nat.le_of_ble_eq_true rfl) ?_); clear hR; intro ww hR
 revert aa
 refine qN hR ?_
 intro aa hS
 refine wpList_nil ?_
 refine hK1053 _ _ ?_
 refine wp_seq_k ?_; intro K1054 hK1054
 refine wp_seq_k ?_; intro K1055 hK1055
 refine wp_region_lit ?_
 revert aa
 refine qM hR ?_
 refine qA hR rfl (fun _ hS => Yld.not hS rfl) ?_
 intro aa hS
 refine wpList_nil ?_
 refine hK1055 _ _ ?_
 refine condF hS rfl ?_
 refine wp_skip ?_
 refine hK1054 _ _ ?_
 refine wp_seq_k ?_; intro K1056 hK1056
 refine wp_region_lit ?_
 revert aa
 refine qM hR ?_
 refine qA hR rfl (fun _ hS => Yld.fieldAddr hS rfl 7 Try.underlying123 rfl rfl info3 (by decide)) ?_
 intro aa hS
 refine sB (Bstore hS hR rfl rfl (by rfl) info3 (by rfl) pkQ (by rfl) (Nat.le_of_ble_eq_true rfl) ?_); clear hR; intro ww hR
 refine wpList_nil ?_
 refine hK1056 _ _ ?_
 refine wp_seq_k ?_; intro K1057 hK1057
 dsimp only [lay, List.set] at hR
 refine drawnL 9 krQ hR ?_; clear hR; intro ww hR; have hR0 := hR
 refine lA 0 rfl krQ krQ krQ krQ (fun _ _ _ h => h) hS hR0 (Yld.move hS rfl) (by decide) ?_; clear hS; intro aa hS
 refine lA 1 rfl krQ krQ krQ krQ (fun _ _ _ h => h) hS hR0 (Yld.move hS rfl) (by decide) ?_; clear hS; intro aa hS
 refine lA 2 rfl krQ krQ krQ krQ (fun _ _ _ h => h) hS hR0 (Yld.loadAgg hS rfl Try.underlying112 rfl info112 rdsQ2 (by rfl)) (by decide) ?_; clear hS; intro aa hS
 refine lA 4 rfl krQ krQ krQ krQ (fun _ _ _ h => h) hS hR0 (Yld.loadAgg hS rfl Try.underlying123 rfl info123 rdsQ8 (by rfl)) (by decide) ?_; clear hS; intro aa hS
 refine lTwo (i := 3) (j := 5) krQ ?_ ?_
 ·
  refine dop rfl (Bcall hS rfl Try.call84 (RfWio_ok (s := (f.s : Int)) (u := f.u) (hR.pk (r := r16A _ b _ _ _) pkQ)) (by decide) ?_); clear hS; intro aa ww vv hS hp
  clear hR hR0
  obtain ⟨rw0, cw0, rfl, hR⟩ := hp
  rw [hTF.wio hf] at hS hR
  have hol : (T.F.filter fun g => decide (g.s ≠ f.s)).length ≤ T.F.length := List.length_filter_le _ _
  refine lnext (hR.sub exQ) ?_; intro hR0
  refine lOne (i := 5) krQ ?_
  refine dop rfl (BbuildSlice hS hR rfl (bls109_1_0 _ _ _ _ _ _ _ _) (by decide) ?_); clear hS hR hR0; intro aa ww bb34 hS hR
  refine lnext (hR.sub exQ) ?_; intro hR0
  replace hR := hR.pk (r := blk bb34 _ _) pkQ
  replace hR := Sep.toRecs (m := 1) (sz := 8) (enc := eF) ([({ f with i := i } : Fl)]) hR rfl (by intro _; rfl) rfl
  refine lOne (i := 6) krQ ?_
  refine dop rfl (BappendR (sz := 8) hS hR rfl rfl Try.underlying109 info123 rfl rfl (by rfl) pkQ (XC.all pkQ) (by intro _; rfl) (by show (_ + _) * 40 ≤ _; exact lenQ) lenQ (by first | rfl | (simp; done) | (simp; omega)) (by decide) ?_); clear hS hR hR0; intro aa ww r35 c35 hS hR
  refine lnext (hR.sub exQ) ?_; intro hR0
  obtain ⟨ba, r, c, hTF, hS4, hR⟩ := (hR.pk (r := r16A _ b _ _ _) pkQ).r16E
  have hFl := hTF.len
  have hrc := (hR.pk (r := sls r _ _ _ _ _) pkQ).slsLe.1
  refine lOne (i := 7) krQ ?_
  refine dop rfl (BA hS hR (Yld.nilCheck hS rfl) (by decide) ?_); clear hS; intro aa hS; refine ⟨fun _ => hR0, ?_⟩
  refine lA 8 rfl krQ krQ krQ krQ (fun _ _ _ h => h) hS hR0 (Yld.fieldAddr hS rfl 0 Try.underlying111 rfl rfl info109 (by decide)) (by decide) ?_; clear hS; intro aa hS
  refine lOne (i := 9) krQ ?_
  refine dop rfl (Bstore hS hR rfl rfl (by rfl) info109 (by rfl) pkQ (by rfl) (Nat.le_of_ble_eq_true rfl) ?_); clear hR hR0; intro ww hR
  refine lend ?_
  refine wpAnyL_done krQ ?_ _; try clear hR0
  refine hK1057 _ _ ?_
  refine wp_seq_k ?_; intro K1058 hK1058
  refine wp_region_lit ?_
  revert aa
  refine qN hR ?_
  intro aa hS
  refine wpList_nil ?_
  refine hK1058 _ _ ?_
  refine wp_ret ?_
  repeat first | with_reducible refine thenR ?_ | with_reducible refine blockR ?_ | with_reducible refine scopeR ?_
  refine ret1 (fn := Try.f60) (e := .ret) (.inl rfl) Try.results60 hS hR ⟨_, (.tmp rfl), ?_⟩
  try dsimp only [lay, List.set] at hR
  exact ⟨rfl, Sep.r16I (t := rt) (b := b) (n := n) (F := ((T.F.filter fun g => decide (g.s ≠ f.s)) ++ [({ f with i := i } : Fl)])) (A := T.A) (hTF.move hf hi) hS4 rfl (hR.sub exQ)⟩
 ·
  refine dop rfl (BbuildSlice hS hR rfl (bls109_1_0 _ _ _ _ _ _ _ _) (by decide) ?_); clear hS hR hR0; intro aa ww bb34 hS hR
  refine lnext (hR.sub exQ) ?_; intro hR0
  replace hR := hR.pk (r := blk bb34 _ _) pkQ
  replace hR := Sep.toRecs (m := 1) (sz := 8) (enc := eF) ([({ f with i := i } : Fl)]) hR rfl (by intro _; rfl) rfl
  refine lOne (i := 3) krQ ?_
  refine dop rfl (Bcall hS rfl Try.call84 (RfWio_ok (s := (f.s : Int)) (u := f.u) (hR.pk (r := r16A _ b _ _ _) pkQ)) (by decide) ?_); clear hS; intro aa ww vv hS hp
  clear hR hR0
  obtain ⟨rw0, cw0, rfl, hR⟩ := hp
  rw [hTF.wio hf] at hS hR
  have hol : (T.F.filter fun g => decide (g.s ≠ f.s)).length ≤ T.F.length := List.length_filter_le _ _
  refine lnext (hR.sub exQ) ?_; intro hR0
  refine lOne (i := 6) krQ ?_
  refine dop rfl (BappendR (sz := 8) hS hR rfl rfl Try.underlying109 info123 rfl rfl (by rfl) pkQ (XC.all pkQ) (by intro _; rfl) (by show (_ + _) * 40 ≤ _; exact lenQ) lenQ (by first | rfl | (simp; done) | (simp; omega)) (by decide) ?_); clear hS hR hR0; intro aa ww r35 c35 hS hR
  refine lnext (hR.sub exQ) ?_; intro hR0
  obtain ⟨ba, r, c, hTF, hS4, hR⟩ := (hR.pk (r := r16A _ b _ _ _) pkQ).r16E
  have hFl := hTF.len
  have hrc := (hR.pk (r := sls r _ _ _ _ _) pkQ).slsLe.1
  refine lOne (i := 7) krQ ?_
  refine dop rfl (BA hS hR (Yld.nilCheck hS rfl) (by decide) ?_); clear hS; intro aa hS; refine ⟨fun _ => hR0, ?_⟩
  refine lA 8 rfl krQ krQ krQ krQ (fun _ _ _ h => h) hS hR0 (Yld.fieldAddr hS rfl 0 Try.underlying111 rfl rfl info109 (by decide)) (by decide) ?_; clear hS; intro aa hS
  refine lOne (i := 9) krQ ?_
  refine dop rfl (Bstore hS hR rfl rfl (by rfl) info109 (by rfl) pkQ (by rfl) (Nat.le_of_ble_eq_true rfl) ?_); clear hR hR0; intro ww hR
  refine lend ?_
  refine wpAnyL_done krQ ?_ _; try clear hR0
  refine hK1057 _ _ ?_
  refine wp_seq_k ?_; intro K1059 hK1059
  refine wp_region_lit ?_
  revert aa
  refine qN hR ?_
  intro aa hS
  refine wpList_nil ?_
  refine hK1059 _ _ ?_
  refine wp_ret ?_
  repeat first | with_reducible refine thenR ?_ | with_reducible refine blockR ?_ | with_reducible refine scopeR ?_
  refine ret1 (fn := Try.f60) (e := .ret) (.inl rfl) Try.results60 hS hR ⟨_, (.tmp rfl), ?_⟩
  try dsimp only [lay, List.set] at hR
  exact ⟨rfl, Sep.r16I (t := rt) (b := b) (n := n) (F := ((T.F.filter fun g => decide (g.s ≠ f.s)) ++ [({ f with i := i } : Fl)])) (A := T.A) (hTF.move hf hi) hS4 rfl (hR.sub exQ)⟩
theorem RfMove_ok {T : Tb} {S n b : Nat} {l : List HP} {w : World} {s u i : Int} (hR : Sep (r16A rt b S n T :: l) w) : CallR Try.prog 60 [.pointer (some ⟨b, 0, none⟩), .agg [.int .i64 s, .int .i64 u].toArray, .int .i64 i] w (fun v w' => v = .int .i64 (movR T n s u i) ∧ Sep (r16A rt b S n (movN T n s u i) :: l) w') := by
 obtain ⟨ba0, r0, c0, hTF, hS40, hR0⟩ := hR.r16E
 clear hR0
 unfold movR movN
 by_cases hi : 0 ≤ i ∧ i < n
 ·
  have hc : ¬ ¬ (0 ≤ i ∧ i < n) := fun x => x hi
  rw [if_neg hc, if_neg hc]
  obtain ⟨j, rfl⟩ : ∃ j : Nat, i = j := ⟨i.toNat, by omega⟩
  cases hg : getF T.F s u with
  | none => exact RfMove_no (by omega) hg hR
  | some f =>
   obtain ⟨hf, h1, h2⟩ := (getF_mem hTF).1 hg
   subst h1 h2
   exact RfMove_yes (by omega) hf hR
 ·
  rw [if_pos hi, if_pos hi]
  exact RfMove_bad hi hR
set_option maxHeartbeats 4000000 in
theorem RfSorted_ok {T : Tb} {S n b : Nat} {l : List HP} {w : World} {lo hi : Int} (hR : Sep (r16A rt b S n T :: l) w) : CallR Try.prog 86 [.pointer (some ⟨b, 0, none⟩), .int .u32 lo, .int .u32 hi] w (fun v w' => ∃ r c, v = .slice r (selH T.F lo hi).length c ∧ Sep (sls r (selH T.F lo hi).length c 112 2 ((selH T.F lo hi).flatMap e2) :: r16A rt b S n T :: l) w') := by
 refine enter Try.func86 rfl Try.ntmps86 (Nat.le_of_ble_eq_true rfl) ?_; intro aa hS
 obtain ⟨ba, r, c, hTF, hS4, hR⟩ := (hR.pk (r := r16A _ b _ _ _) pkQ).r16E
 have hFl := hTF.len
 have hrc := (hR.pk (r := sls r _ _ _ _ _) pkQ).slsLe.1
 refine wp_seq_k ?_; intro K1060 hK1060
 refine wp_region_lit ?_
 revert aa
 refine qN hR ?_
 intro aa hS
 refine wpList_nil ?_
 refine hK1060 _ _ ?_
 refine wp_seq_k ?_; intro K1061 hK1061
 refine wp_region_lit ?_
 refine sA hS hR (Yld.build hS rfl (bld183_0 _)) (by decide) ?_; clear hS; intro aa hS
 refine sB (Bbox hS hR rfl (by rfl) (by decide) ?_); clear hS hR; intro aa ww bb13 hS hR
 replace hR := (hR.slsNil (T := 3) (sz := 1)).slsNil (T := 35) (sz := 5)
 replace hR := hR.pk (r := blk bb13 _ _) pkQ
 replace hR := Sep.rtrI (TR := 183) (TK := 35) (TI := 3) (b := bb13) (K := []) (xs := []) (ys := []) (most := 4096) (r1 := none) (r2 := none) (c1 := 0) (c2 := 0) (n1 := 0) (n2 := 0) (GK.nil (by omega) (by omega)) srt_nil.symm (by rw [vals, srt_nil]; rfl) rfl rfl hR
 revert aa
 refine qN hR ?_
 intro aa hS
 refine wpList_nil ?_
 refine hK1061 _ _ ?_
 refine wp_seq_k ?_; intro K1062 hK1062
 refine wp_seq_k ?_; intro K1063 hK1063
 refine wp_region_lit ?_
 revert aa
 refine qN hR ?_
 intro aa hS
 refine wpList_nil ?_
 refine hK1063 _ _ ?_
 refine wp_block ?_
 replace hR := hR.pk (r := rtrA 183 35 3 bb13 [] 4096) pkQ
 refine loopI (X := Nat) [(0, _), (1, _), (2, _), (6, _), (7, _)] (fun x => [(8, .int .i64 (x : Int))]) (fun x => [rtrA 183 35 3 bb13 (selK T.F lo hi x) 4096]) _ (fun x => x ≤ T.F.length) (fun x => T.F.length - x) 0 (Nat.zero_le _) (hS.le (Le.cons rfl (Le.nilapp (Le.cons rfl (Le.cons rfl (Le.cons rfl (Le.cons rfl (Le.cons rfl (Le.nil _))))))))) hR ?_
 clear hS hR; rintro i aa ww hI hS hR; dsimp only [List.cons_append, List.nil_append] at hI hS hR
 refine wp_seq_k ?_; intro K1065 hK1065
 refine wp_seq_k ?_; intro K1066 hK1066
 refine wp_region_lit ?_
 revert aa
 refine qM hR ?_
 refine qM hR ?_
 refine qA hR rfl (fun _ hS => Yld.nilCheck hS rfl) ?_
 refine qA hR rfl (fun _ hS => Yld.fieldAddr hS rfl 0 Try.underlying111 rfl rfl info109 (by decide)) ?_
 refine qA hR rfl (fun _ hS => Yld.load1 hS rfl Try.underlying109 rfl rdQ) ?_
 refine qA hR rfl (fun _ hS => Yld.len hS rfl Try.underlying109) ?_
 refine qA hR rfl (fun _ hS => Yld.lss hS rfl rfl) ?_
 intro aa hS
 refine wpList_nil ?_
 refine hK1066 _ _ ?_
 refine hS.splitB (t := 20) rfl ?_ ?_ <;> clear hS
 ·
  intro hg hS
  obtain ⟨f, hfe⟩ : ∃ y : Fl, T.F[i]'(by omega) = y := ⟨_, rfl⟩
  have hil : i < T.F.length := by omega
  have hfm : f ∈ T.F := by rw [← hfe]; exact List.getElem_mem hil
  have hsu := sel_succ (lo := lo) (hi := hi) hil
  have hpt := fun hc => hTF.selPut (lo := lo) (hi := hi) (i := i) hS4 hil hc
  rw [hfe] at hsu hpt
  refine condT hS rfl ?_
  refine wp_skip ?_
  refine hK1065 _ _ ?_
  refine wp_seq_k ?_; intro K1067 hK1067
  refine wp_block ?_
  refine wp_seq_k ?_; intro K1068 hK1068
  refine wp_region_lit ?_
  revert aa
  refine qM hR ?_
  refine qA hR rfl (fun _ hS => Yld.nilCheck hS rfl) ?_
  refine qA hR rfl (fun _ hS => Yld.fieldAddr hS rfl 0 Try.underlying111 rfl rfl info109 (by decide)) ?_
  refine qA hR rfl (fun _ hS => Yld.load1 hS rfl Try.underlying109 rfl rdQ) ?_
  refine qM hR ?_
  refine qA hR rfl (fun _ hS => ilQ 8 (i) Try.underlying109 info123) ?_
  refine qA hR rfl (fun _ hS => Yld.fieldAddr hS rfl 2 Try.underlying123 rfl rfl info35 (by decide)) ?_
  refine qA hR rfl (fun _ hS => Yld.loadAgg (vs := eK f.k) hS rfl Try.underlying35 rfl info35 (Rds.recPart (enc := eF) (xs := T.F) (k := i) (j := 2) (us := eK f.k) pkQ (by intro _; rfl) (by omega) (by rw [hfe]; rfl)) (by rfl)) ?_
  intro aa hS
  refine sB (Balloc hS hR info35 (by rfl) (by rfl) (by decide) ?_); clear hS hR; intro aa ww bb9 hS hR
  refine sB (Bstore hS hR rfl rfl (by rfl) info35 (by rfl) pkQ (by rfl) (Nat.le_of_ble_eq_true rfl) ?_); clear hR; intro ww hR
  refine wpList_nil ?_
  refine hK1068 _ _ ?_
  refine wp_seq_k ?_; intro K1069 hK1069
  refine wp_region_lit ?_
  revert aa
  refine qA hR rfl (fun _ hS => Yld.fieldAddr hS rfl 1 Try.underlying35 rfl rfl info32 (by decide)) ?_
  refine qA hR rfl (fun _ hS => Yld.load1 hS rfl Try.underlying32 rfl rdQ) ?_
  refine qM hR ?_
  refine qA hR rfl (fun _ hS => Yld.geq hS rfl rfl) ?_
  refine qM hR ?_
  intro aa hS
  refine hS.splitB (t := 35) rfl ?_ ?_ <;> clear hS
  ·
   intro hg hS
   have hlo : lo ≤ f.k.2.1 := hg
   revert aa
   refine qAg hR rfl rfl rfl (fun _ hS => Yld.fieldAddr hS rfl 1 Try.underlying35 rfl rfl info32 (by decide)) ?_
   refine qAg hR rfl rfl rfl (fun _ hS => Yld.load1 hS rfl Try.underlying32 rfl rdQ) ?_
   refine qMg hR ?_
   refine qAg hR rfl rfl rfl (fun _ hS => Yld.leq hS rfl rfl) ?_
   refine qA hR rfl (fun _ hS => Yld.pickT hS rfl rfl) ?_
   intro aa hS
   refine wpList_nil ?_
   refine hK1069 _ _ ?_
   refine hS.splitB (t := 40) rfl ?_ ?_ <;> clear hS
   ·
    intro hg hS
    replace hpt := hpt ⟨hlo, hg⟩
    refine condT hS rfl ?_
    refine wp_region_lit ?_
    revert aa
    refine qM hR ?_
    intro aa hS
    refine sA hS hR (Yld.loadAgg hS rfl Try.underlying35 rfl info35 rdsQ5 (by rfl)) (by decide) ?_; clear hS; intro aa hS
    revert aa
    refine qM hR ?_
    intro aa hS
    refine sB (Bcall hS rfl Try.call97 (RPut_ok (K := (selK T.F lo hi i)) (k := f.k) (vx := (i : Int)) (b := bb13) (most := 4096) (hR.pk (r := rtrA _ _ _ bb13 _ _) pkQ) (hTF.wf f hfm)) (by decide) ?_); clear hS; intro aa ww vv hS hp
    clear hR
    obtain ⟨rfl, hR⟩ := hp
    rw [hpt] at hR
    refine wpList_nil ?_
    refine hK1067 _ _ ?_
    refine wp_region_lit ?_
    revert aa
    refine qM hR ?_
    intro aa hS
    refine sA hS hR adQ (by decide) ?_; clear hS; intro aa hS
    revert aa
    refine qN hR ?_
    intro aa hS
    refine wpList_nil ?_
    refine ⟨i + 1, ?_, ?_, hS.le (Le.cons rfl (Le.nilapp (Le.cons rfl (Le.cons rfl (Le.cons rfl (Le.cons rfl (Le.cons rfl (Le.nil _)))))))), hR.sub (Ex.take pkQ (Ex.nilapp exQ))⟩
    ·
     omega
    ·
     omega
   ·
    intro hg hS
    have hns : selK T.F lo hi (i + 1) = selK T.F lo hi i := by rw [hsu, if_neg (fun h => by omega)]
    rw [← hns] at hR
    refine condF hS rfl ?_
    refine wp_skip ?_
    refine hK1067 _ _ ?_
    refine wp_region_lit ?_
    revert aa
    refine qM hR ?_
    intro aa hS
    refine sA hS hR adQ (by decide) ?_; clear hS; intro aa hS
    revert aa
    refine qN hR ?_
    intro aa hS
    refine wpList_nil ?_
    refine ⟨i + 1, ?_, ?_, hS.le (Le.cons rfl (Le.nilapp (Le.cons rfl (Le.cons rfl (Le.cons rfl (Le.cons rfl (Le.cons rfl (Le.nil _)))))))), hR.sub (Ex.take pkQ (Ex.nilapp exQ))⟩
    ·
     omega
    ·
     omega
  ·
   intro hg hS
   have hns : selK T.F lo hi (i + 1) = selK T.F lo hi i := by rw [hsu, if_neg (fun h => by omega)]
   rw [← hns] at hR
   revert aa
   refine qZ ?_
   refine qZ ?_
   refine qZ ?_
   refine qZ ?_
   refine qA hR rfl (fun _ hS => Yld.pickF hS rfl rfl) ?_
   intro aa hS
   refine wpList_nil ?_
   refine hK1069 _ _ ?_
   refine condF hS rfl ?_
   refine wp_skip ?_
   refine hK1067 _ _ ?_
   refine wp_region_lit ?_
   revert aa
   refine qM hR ?_
   intro aa hS
   refine sA hS hR adQ (by decide) ?_; clear hS; intro aa hS
   revert aa
   refine qN hR ?_
   intro aa hS
   refine wpList_nil ?_
   refine ⟨i + 1, ?_, ?_, hS.le (Le.cons rfl (Le.nilapp (Le.cons rfl (Le.cons rfl (Le.cons rfl (Le.cons rfl (Le.cons rfl (Le.nil _)))))))), hR.sub (Ex.take pkQ (Ex.nilapp exQ))⟩
   ·
    omega
   ·
    omega
 ·
  intro hg hS
  obtain rfl : i = T.F.length := by omega
  refine condF hS rfl ?_
  refine wp_exit ?_
  refine hK1062 _ _ ?_
  refine wp_seq_k ?_; intro K1070 hK1070
  refine wp_region_lit ?_
  revert aa
  refine qN hR ?_
  intro aa hS
  refine wpList_nil ?_
  refine hK1070 _ _ ?_
  refine wp_seq_k ?_; intro K1071 hK1071
  refine wp_seq_k ?_; intro K1072 hK1072
  refine wp_region_lit ?_
  revert aa
  refine qN hR ?_
  intro aa hS
  refine wpList_nil ?_
  refine hK1072 _ _ ?_
  refine wp_block ?_
  obtain ⟨r1, c1, r2, c2, hGK, hR⟩ := (hR.pk (r := rtrA _ _ _ bb13 _ _) pkQ).rtrE
  have hvl := hTF.selVals (lo := lo) (hi := hi)
  replace hR := hR.slsNil (T := 112) (sz := 2)
  replace hR := hR.pk (r := sls none 0 0 112 2 []) pkQ
  refine loopI (X := Nat × Option Addr × Nat) [(0, _), (6, _), (7, _)] (fun x => [(10, .slice x.2.1 (outH T.F lo hi x.1).length x.2.2), (11, .int .i64 (x.1 : Int))]) (fun x => [sls x.2.1 (outH T.F lo hi x.1).length x.2.2 112 2 ((outH T.F lo hi x.1).flatMap e2)]) _ (fun x => x.1 ≤ (vals (selK T.F lo hi T.F.length)).length) (fun x => (vals (selK T.F lo hi T.F.length)).length - x.1) (0, none, 0) (Nat.zero_le _) (hS.le (Le.cons rfl (Le.cons rfl (Le.nilapp (Le.cons rfl (Le.cons rfl (Le.cons rfl (Le.nil _)))))))) hR ?_
  clear hS hR; rintro ⟨x, r0, c0⟩ aa ww hI hS hR; dsimp only [List.cons_append, List.nil_append] at hI hS hR
  refine wp_seq_k ?_; intro K1074 hK1074
  refine wp_seq_k ?_; intro K1075 hK1075
  refine wp_region_lit ?_
  revert aa
  refine qM hR ?_
  refine qM hR ?_
  refine qA hR rfl (fun _ hS => Yld.nilCheck hS rfl) ?_
  refine qA hR rfl (fun _ hS => Yld.fieldAddr hS rfl 2 Try.underlying183 rfl rfl info58 (by decide)) ?_
  refine qA hR rfl (fun _ hS => Yld.load1 hS rfl Try.underlying58 rfl rdQ) ?_
  refine qA hR rfl (fun _ hS => Yld.len hS rfl Try.underlying58) ?_
  refine qA hR rfl (fun _ hS => Yld.lss hS rfl rfl) ?_
  intro aa hS
  refine wpList_nil ?_
  refine hK1075 _ _ ?_
  refine hS.splitB (t := 51) rfl ?_ ?_ <;> clear hS
  ·
   intro hg hS
   have hxl : x < (vals (selK T.F lo hi T.F.length)).length := by omega
   obtain ⟨i, hil, hvx, _⟩ := hTF.valAt (lo := lo) (hi := hi) hxl
   obtain ⟨f, hfe⟩ : ∃ y : Fl, T.F[i]'(by omega) = y := ⟨_, rfl⟩
   have hox := hTF.outH_next hxl hil hvx
   rw [hfe] at hox
   have hol := outH_len (F := T.F) (lo := lo) (hi := hi) x
   refine condT hS rfl ?_
   refine wp_skip ?_
   refine hK1074 _ _ ?_
   refine wp_seq_k ?_; intro K1076 hK1076
   refine wp_block ?_
   refine drawn krQ hR (Ex.of_pk (r := sls r0 _ _ _ _ _) pkQ) ?_; clear hR; intro ww hR hR0
   revert aa
   refine eA 0 rfl krQ (fun _ _ _ h => h) hR0 rfl (fun _ hS => Yld.move hS rfl) ?_
   refine eA 1 rfl krQ (fun _ _ _ h => h) hR0 rfl (fun _ hS => Yld.move hS rfl) ?_
   refine eA 2 rfl krQ (fun _ _ _ h => h) hR0 rfl (fun _ hS => Yld.nilCheck hS rfl) ?_
   refine eA 3 rfl krQ (fun _ _ _ h => h) hR0 rfl (fun _ hS => Yld.fieldAddr hS rfl 0 Try.underlying111 rfl rfl info109 (by decide)) ?_
   refine eA 4 rfl krQ (fun _ _ _ h => h) hR0 rfl (fun _ hS => Yld.load1 hS rfl Try.underlying109 rfl rdQ) ?_
   refine eA 5 rfl krQ (fun _ _ _ h => h) hR0 rfl (fun _ hS => Yld.move hS rfl) ?_
   refine eA 6 rfl krQ (fun _ _ _ h => h) hR0 rfl (fun _ hS => Yld.nilCheck hS rfl) ?_
   refine eA 7 rfl krQ (fun _ _ _ h => h) hR0 rfl (fun _ hS => Yld.fieldAddr hS rfl 2 Try.underlying183 rfl rfl info58 (by decide)) ?_
   refine eA 8 rfl krQ (fun _ _ _ h => h) hR0 rfl (fun _ hS => Yld.load1 hS rfl Try.underlying58 rfl rdQ) ?_
   refine eA 9 rfl krQ (fun _ _ _ h => h) hR0 rfl (fun _ hS => Yld.move hS rfl) ?_
   refine eA 10 rfl krQ (fun _ _ _ h => h) hR0 rfl (fun _ hS => ilQ 1 (x) Try.underlying58 info3) ?_
   refine eA 11 rfl krQ (fun _ _ _ h => h) hR0 rfl (fun _ hS => Yld.load1 hS rfl Try.underlying3 rfl (Rd.rec0 (k := x) (xs := vals (selK T.F lo hi T.F.length)) (v := .int .i64 (i : Int)) pkQ (by intro _; rfl) hxl (by rw [hvx]; rfl))) ?_
   refine eA 12 rfl krQ (fun _ _ _ h => h) hR0 rfl (fun _ hS => ilQ 8 (i) Try.underlying109 info123) ?_
   refine eA 13 rfl krQ (fun _ _ _ h => h) hR0 rfl (fun _ hS => Yld.fieldAddr hS rfl 0 Try.underlying123 rfl rfl info112 (by decide)) ?_
   refine eA 14 rfl krQ (fun _ _ _ h => h) hR0 rfl (fun _ hS => Yld.loadAgg (vs := [.int .i64 (f.s : Int), .int .i64 f.u]) hS rfl Try.underlying112 rfl info112 (Rds.recPart (enc := eF) (xs := T.F) (k := i) (j := 0) (us := [.int .i64 (f.s : Int), .int .i64 f.u]) pkQ (by intro _; rfl) (by omega) (by rw [hfe]; rfl)) (by rfl)) ?_
   intro aa hS
   refine dOne (i := 15) krQ ?_
   refine dop rfl (BbuildSlice hS hR rfl (bls126_1_0 _ _) (by decide) ?_); clear hS hR hR0; intro aa ww bb69 hS hR
   refine dnext (hR.sub exQ) ?_; intro hR0
   refine dOne (i := 16) krQ ?_
   refine dop rfl (BappendR (sz := 2) hS hR rfl rfl Try.underlying126 info112 rfl rfl (by rfl) pkQ (XC.one (hd2 f) pkQ (by rfl) rfl) (by intro _; rfl) (by show (_ + _) * 16 ≤ _; exact lenQ) lenQ (by first | rfl | (simp; done) | (simp; omega)) (by decide) ?_); clear hS hR hR0; intro aa ww r70 c70 hS hR
   refine dnext (hR.sub exQ) ?_; intro hR0
   rw [← hox] at hS hR
   revert aa
   refine eA 17 rfl krQ (fun _ _ _ h => h) hR0 rfl (fun _ hS => Yld.assign hS rfl) ?_
   intro aa hS
   refine wpAnyH_done krQ ?_ _; clear hR0
   refine hK1076 _ _ ?_
   refine wp_region_lit ?_
   revert aa
   refine qM hR ?_
   intro aa hS
   refine sA hS hR adQ (by decide) ?_; clear hS; intro aa hS
   revert aa
   refine qN hR ?_
   intro aa hS
   refine wpList_nil ?_
   refine ⟨(x + 1, _, _), ?_, ?_, hS.le (Le.cons rfl (Le.cons rfl (Le.nilapp (Le.cons rfl (Le.cons rfl (Le.cons rfl (Le.nil _))))))), hR.sub (Ex.take pkQ (Ex.nilapp exQ))⟩
   ·
    dsimp only; omega
   ·
    dsimp only; omega
  ·
   intro hg hS
   rw [hTF.outH_all (by omega)] at hS hR
   refine condF hS rfl ?_
   refine wp_exit ?_
   refine hK1071 _ _ ?_
   refine wp_seq_k ?_; intro K1077 hK1077
   refine wp_region_lit ?_
   revert aa
   refine qM hR ?_
   refine qN hR ?_
   intro aa hS
   refine wpList_nil ?_
   refine hK1077 _ _ ?_
   refine wp_ret ?_
   repeat first | with_reducible refine thenR ?_ | with_reducible refine blockR ?_ | with_reducible refine scopeR ?_
   refine ret1 (fn := Try.f86) (e := .ret) (.inl rfl) Try.results86 hS hR ⟨_, (.tmp rfl), ?_⟩
   replace hR := Sep.r16J (t := rt) (b := b) (n := n) (T := T) hTF hS4 (hR.sub exQ)
   exact ⟨r0, c0, rfl, (hR.sub exQ)⟩
theorem RfFrom_ok {T : Tb} {S n b : Nat} {l : List HP} {w : World} {src : Int} (hs : 0 ≤ src ∧ src ≤ 4294967295) (hR : Sep (r16A rt b S n T :: l) w) : CallR Try.prog 66 [.pointer (some ⟨b, 0, none⟩), .int .u32 src] w (fun v w' => ∃ r c, v = .slice r (frmF T.F src).length c ∧ Sep (sls r (frmF T.F src).length c 112 2 ((frmF T.F src).flatMap e2) :: r16A rt b S n T :: l) w') := by
 refine enter Try.func66 rfl Try.ntmps66 (Nat.le_of_ble_eq_true rfl) ?_; intro aa hS
 obtain ⟨ba0, r0, c0, hTF, hS40, hR0⟩ := (hR.pk (r := r16A _ b _ _ _) pkQ).r16E
 clear hR0
 refine wp_seq_k ?_; intro K1078 hK1078
 refine wp_region_lit ?_
 revert aa
 refine qN hR ?_
 intro aa hS
 refine wpList_nil ?_
 refine hK1078 _ _ ?_
 refine wp_seq_k ?_; intro K1079 hK1079
 refine wp_region_lit ?_
 revert aa
 refine qM hR ?_
 refine qM hR ?_
 refine qM hR ?_
 intro aa hS
 refine sB (Bcall hS rfl Try.call86 (RfSorted_ok (lo := src) (hi := src) (hR.pk (r := r16A _ b _ _ _) pkQ)) (by decide) ?_); clear hS; intro aa ww vv hS hp
 clear hR
 obtain ⟨rz, cz, rfl, hR⟩ := hp
 rw [hTF.selFrom hs] at hS hR
 revert aa
 refine qN hR ?_
 intro aa hS
 refine wpList_nil ?_
 refine hK1079 _ _ ?_
 refine wp_ret ?_
 repeat first | with_reducible refine thenR ?_ | with_reducible refine blockR ?_ | with_reducible refine scopeR ?_
 refine ret1 (fn := Try.f66) (e := .ret) (.inl rfl) Try.results66 hS hR ⟨_, (.tmp rfl), ?_⟩
 exact ⟨rz, cz, rfl, (hR.sub exQ)⟩
theorem RfAll_ok {T : Tb} {S n b : Nat} {l : List HP} {w : World} (hR : Sep (r16A rt b S n T :: l) w) : CallR Try.prog 69 [.pointer (some ⟨b, 0, none⟩)] w (fun v w' => ∃ r c, v = .slice r (allF T.F).length c ∧ Sep (sls r (allF T.F).length c 112 2 ((allF T.F).flatMap e2) :: r16A rt b S n T :: l) w') := by
 refine enter Try.func69 rfl Try.ntmps69 (Nat.le_of_ble_eq_true rfl) ?_; intro aa hS
 obtain ⟨ba0, r0, c0, hTF, hS40, hR0⟩ := (hR.pk (r := r16A _ b _ _ _) pkQ).r16E
 clear hR0
 refine wp_seq_k ?_; intro K1080 hK1080
 refine wp_region_lit ?_
 revert aa
 refine qN hR ?_
 intro aa hS
 refine wpList_nil ?_
 refine hK1080 _ _ ?_
 refine wp_seq_k ?_; intro K1081 hK1081
 refine wp_region_lit ?_
 revert aa
 refine qM hR ?_
 intro aa hS
 refine sB (Bcall hS rfl Try.call86 (RfSorted_ok (lo := 0) (hi := 4294967295) (hR.pk (r := r16A _ b _ _ _) pkQ)) (by decide) ?_); clear hS; intro aa ww vv hS hp
 clear hR
 obtain ⟨rz, cz, rfl, hR⟩ := hp
 rw [hTF.selAll] at hS hR
 revert aa
 refine qN hR ?_
 intro aa hS
 refine wpList_nil ?_
 refine hK1081 _ _ ?_
 refine wp_ret ?_
 repeat first | with_reducible refine thenR ?_ | with_reducible refine blockR ?_ | with_reducible refine scopeR ?_
 refine ret1 (fn := Try.f69) (e := .ret) (.inl rfl) Try.results69 hS hR ⟨_, (.tmp rfl), ?_⟩
 exact ⟨rz, cz, rfl, (hR.sub exQ)⟩
end Go.Proofs.Ythhndmlfgjcgpaa.Sx
