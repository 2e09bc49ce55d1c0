/-
 
-/
import Derived.Test.YthhndmlfgjcgpaaZRwD
import Derived.Test.YthhndmlfgjcgpaaZPy
namespace Go.Proofs.Ythhndmlfgjcgpaa.Sx
open Go
set_option maxRecDepth 20000
set_option linter.unusedVariables false
set_option linter.unusedSimpArgs false
theorem bld29_0_1 (x0 : Int) (x1 : Int) (w : World) : (Instr.build 29 [(0, .int .i64 x0), (1, .int .i64 x1)].toArray).run Try.prog w = .ok (.agg [.int .i64 x0, .int .i64 x1].toArray) w := by kernel_rfl
theorem handles_ok {q1 q2 : Option Addr} {c1 c2 : Nat} {xs : List (Int × Int)} {l : List HP} {w : World} (hx : xs.length ≤ 9000) (hR : Sep (sls q1 xs.length c1 29 2 (xs.flatMap e2) :: sls q2 xs.length c2 112 2 (xs.flatMap e2) :: l) w) : CallR Try.prog 65 [.slice q1 xs.length c1, .slice q2 xs.length c2] w (fun v w' => v = .bool true ∧ Sep (sls q1 xs.length c1 29 2 (xs.flatMap e2) :: sls q2 xs.length c2 112 2 (xs.flatMap e2) :: l) w') := by
 refine enter Try.func65 rfl Try.ntmps65 (Nat.le_of_ble_eq_true rfl) ?_; intro aa hS
 refine wp_seq_k ?_; intro K1082 hK1082
 refine wp_region_lit ?_
 revert aa
 refine qN hR ?_
 intro aa hS
 refine wpList_nil ?_
 refine hK1082 _ _ ?_
 refine wp_seq_k ?_; intro K1083 hK1083
 refine wp_seq_k ?_; intro K1084 hK1084
 refine wp_region_lit ?_
 revert aa
 refine qM hR ?_
 refine qA hR rfl (fun _ hS => Yld.len hS rfl Try.underlying38) ?_
 refine qM hR ?_
 refine qA hR rfl (fun _ hS => Yld.len hS rfl Try.underlying126) ?_
 refine qA hR rfl (fun _ hS => Yld.neq hS rfl rfl) ?_
 refine qB (t := 10) false rfl (by simp) ?_
 intro aa hS
 refine wpList_nil ?_
 refine hK1084 _ _ ?_
 refine condF hS rfl ?_
 refine wp_skip ?_
 refine hK1083 _ _ ?_
 refine wp_seq_k ?_; intro K1085 hK1085
 refine wp_seq_k ?_; intro K1086 hK1086
 refine wp_region_lit ?_
 revert aa
 refine qM hR ?_
 refine qA hR rfl (fun _ hS => Yld.len hS rfl Try.underlying38) ?_
 refine qM hR ?_
 intro aa hS
 refine wpList_nil ?_
 refine hK1086 _ _ ?_
 refine wp_block ?_
 refine loopI (X := Nat) [(0, _), (1, _), (12, _)] (fun x => [(13, .int .i64 (x : Int))]) (fun x => []) _ (fun x => x ≤ xs.length) (fun x => xs.length - x) 0 (Nat.zero_le _) (hS.le (Le.cons rfl (Le.nilapp (Le.cons rfl (Le.cons rfl (Le.cons rfl (Le.nil _))))))) hR ?_
 clear hS hR; rintro j aa ww hI hS hR; dsimp only [List.cons_append, List.nil_append] at hI hS hR
 refine wp_seq_k ?_; intro K1088 hK1088
 refine wp_region_lit ?_
 refine sA hS hR (Yld.lss hS rfl rfl) (by decide) ?_; clear hS; intro aa hS
 refine wpList_nil ?_
 refine hK1088 _ _ ?_
 refine wp_seq_k ?_; intro K1089 hK1089
 refine hS.splitB (t := 14) rfl ?_ ?_ <;> clear hS
 ·
  intro hg hS
  have hjl : j < xs.length := by omega
  obtain ⟨x0, hx0⟩ : ∃ y, xs[j] = y := ⟨_, rfl⟩
  refine condT hS rfl ?_
  refine wp_skip ?_
  refine hK1089 _ _ ?_
  refine wp_seq_k ?_; intro K1090 hK1090
  refine wp_block ?_
  refine wp_seq_k ?_; intro K1091 hK1091
  refine wp_region_lit ?_
  revert aa
  refine qM hR ?_
  refine qN hR ?_
  intro aa hS
  refine wpList_nil ?_
  refine hK1091 _ _ ?_
  refine wp_seq_k ?_; intro K1092 hK1092
  refine drawn krQ hR Ex.refl ?_; clear hR; intro ww hR hR0
  revert aa
  refine eA 0 rfl krQ (fun _ _ _ h => h) hR0 rfl (fun _ hS => Yld.move hS rfl) ?_
  refine eA 1 rfl krQ (fun _ _ _ h => h) hR0 rfl (fun _ hS => Yld.move hS rfl) ?_
  refine eA 2 rfl krQ (fun _ _ _ h => h) hR0 rfl (fun _ hS => ilQ 2 (j) Try.underlying38 info29) ?_
  refine eA 3 rfl krQ (fun _ _ _ h => h) hR0 rfl (fun _ hS => Yld.loadAgg (vs := [.int .i64 x0.1, .int .i64 x0.2]) hS rfl Try.underlying29 rfl info29 (hx0 ▸ Rds.rec (enc := e2) (xs := xs) (k := j) pkQ (by intro _; rfl) hjl) (by rfl)) ?_
  refine eA 4 rfl krQ (fun _ _ _ h => h) hR0 rfl (fun _ hS => Yld.move hS rfl) ?_
  refine eA 5 rfl krQ (fun _ _ _ h => h) hR0 rfl (fun _ hS => Yld.move hS rfl) ?_
  refine eA 6 rfl krQ (fun _ _ _ h => h) hR0 rfl (fun _ hS => ilQ 2 (j) Try.underlying126 info112) ?_
  refine eA 7 rfl krQ (fun _ _ _ h => h) hR0 rfl (fun _ hS => Yld.loadAgg (vs := [.int .i64 x0.1, .int .i64 x0.2]) hS rfl Try.underlying112 rfl info112 (hx0 ▸ Rds.rec (enc := e2) (xs := xs) (k := j) pkQ (by intro _; rfl) hjl) (by rfl)) ?_
  refine eA 8 rfl krQ (fun _ _ _ h => h) hR0 rfl (fun _ hS => Yld.binRun hS rfl rfl (neq112 _ _ _ _ _ _)) ?_
  refine qB (t := 24) false rfl (by simp) ?_
  intro aa hS
  refine wpAnyH_done krQ ?_ _; clear hR0
  refine hK1092 _ _ ?_
  refine condF hS rfl ?_
  refine wp_skip ?_
  refine hK1090 _ _ ?_
  refine wp_region_lit ?_
  refine sA hS hR adQ (by decide) ?_; clear hS; intro aa hS
  revert aa
  refine qM hR ?_
  intro aa hS
  refine wpList_nil ?_
  refine ⟨j + 1, ?_, ?_, hS.le (Le.cons rfl (Le.nilapp (Le.cons rfl (Le.cons rfl (Le.cons rfl (Le.nil _)))))), hR.sub (Ex.nilapp exQ)⟩
  ·
   omega
  ·
   omega
 ·
  intro hg hS
  refine condF hS rfl ?_
  refine wp_exit ?_
  refine hK1085 _ _ ?_
  refine wp_seq_k ?_; intro K1093 hK1093
  refine wp_region_lit ?_
  revert aa
  refine qN hR ?_
  intro aa hS
  refine wpList_nil ?_
  refine hK1093 _ _ ?_
  refine wp_ret ?_
  repeat first | with_reducible refine thenR ?_ | with_reducible refine blockR ?_ | with_reducible refine scopeR ?_
  refine ret1 (fn := Try.f65) (e := .ret) (.inl rfl) Try.results65 hS hR ⟨_, (.tmp rfl), ?_⟩
  exact ⟨rfl, (hR.sub exQ)⟩
set_option maxHeartbeats 4000000 in
theorem act16_ok {T : Tb} {S n b b2 : Nat} {kd s u i : Int} {k : Ky} {l : List HP} {w : World} (hk : WfK k) (hkd : 0 ≤ kd ∧ kd ≤ 255) (hR : Sep (tableA tt b S n T :: r16A rt b2 S n T :: l) w) : CallR Try.prog 27 [.pointer (some ⟨b, 0, none⟩), .pointer (some ⟨b2, 0, none⟩), .agg [.int .u8 kd, .int .u8 k.1, .int .u32 k.2.1, .int .u32 k.2.2.1, .int .u16 k.2.2.2.1, .int .u16 k.2.2.2.2, .int .i64 s, .int .i64 u, .int .i64 i].toArray] w (fun v w' => v = .bool true ∧ Sep (tableA tt b S n (actT T n kd s u k i) :: r16A rt b2 S n (actT T n kd s u k i) :: l) w') := by
 refine enter Try.func27 rfl Try.ntmps27 (Nat.le_of_ble_eq_true rfl) ?_; intro aa hS
 refine wp_seq_k ?_; intro K1094 hK1094
 refine wp_region_lit ?_
 refine sB (Bbox hS hR rfl (by rfl) (by decide) ?_); clear hS hR; intro aa ww bb5 hS hR
 revert aa
 refine qN hR ?_
 intro aa hS
 refine wpList_nil ?_
 refine hK1094 _ _ ?_
 refine wp_seq_k ?_; intro K1095 hK1095
 refine wp_region_lit ?_
 revert aa
 refine qA hR rfl (fun _ hS => Yld.fieldAddr hS rfl 6 Try.underlying67 rfl rfl info3 (by decide)) ?_
 refine qA hR rfl (fun _ hS => Yld.load1 hS rfl Try.underlying3 rfl rdQ) ?_
 refine qA hR rfl (fun _ hS => Yld.fieldAddr hS rfl 7 Try.underlying67 rfl rfl info3 (by decide)) ?_
 refine qA hR rfl (fun _ hS => Yld.load1 hS rfl Try.underlying3 rfl rdQ) ?_
 refine qA hR rfl (fun _ hS => Yld.build hS rfl (bld29_0_1 _ _)) ?_
 intro aa hS
 refine sB (Balloc hS hR info29 (by rfl) (by rfl) (by decide) ?_); clear hS hR; intro aa ww bb7 hS hR
 refine sB (Bstore hS hR rfl rfl (by rfl) info29 (by rfl) pkQ (by rfl) (Nat.le_of_ble_eq_true rfl) ?_); clear hR; intro ww hR
 refine wpList_nil ?_
 refine hK1095 _ _ ?_
 refine wp_seq_k ?_; intro K1096 hK1096
 have tail1096 : ∀ (hs hu : Int) (ho : ownH T kd s u = (hs, hu)) (aa : Act) (ww : World), Has 105 aa [(0, .pointer (some ⟨b, 0, none⟩)), (1, .pointer (some ⟨b2, 0, none⟩)), (5, .pointer (some ⟨bb5, 0, none⟩)), (7, .pointer (some ⟨bb7, 0, none⟩))] → Sep (tableA tt b S n T :: r16A rt b2 S n T :: blk bb5 [.int .u8 kd, .int .u8 k.1, .int .u32 k.2.1, .int .u32 k.2.2.1, .int .u16 k.2.2.2.1, .int .u16 k.2.2.2.2, .int .i64 s, .int .i64 u, .int .i64 i] 67 :: blk bb7 [.int .i64 hs, .int .i64 hu] 29 :: l) ww → K1096 aa ww := by
  clear hS hR; intro hs hu ho aa ww hS hR
  refine hK1096 _ _ ?_
  refine wp_seq_k ?_; intro K1097 hK1097
  refine wp_seq_k ?_; intro K1098 hK1098
  refine wp_region_lit ?_
  revert aa
  refine qA hR rfl (fun _ hS => Yld.fieldAddr hS rfl 0 Try.underlying67 rfl rfl info5 (by decide)) ?_
  refine qA hR rfl (fun _ hS => Yld.load1 hS rfl Try.underlying5 rfl rdQ) ?_
  refine qA hR rfl (fun _ hS => by first | exact Yld.to (Yld.quo hS rfl rfl (by omega)) (congrArg (Value.int .u8) (IntWalk.u8_quo _ _ (by omega))) | exact Yld.quo hS rfl rfl (by omega)) ?_
  refine qA hR rfl (fun _ hS => by first | exact Yld.rem64 hS rfl rfl (by omega) | exact Yld.rem hS rfl rfl (by omega)) ?_
  intro aa hS
  refine wpList_nil ?_
  refine hK1098 _ _ ?_
  refine wp_block ?_
  refine wp_seq_k ?_; intro K1099 hK1099
  refine wp_seq_k ?_; intro K1100 hK1100
  refine wp_region_lit ?_
  revert aa
  refine qA hR rfl (fun _ hS => Yld.eql hS rfl rfl) ?_
  refine qN hR ?_
  intro aa hS
  refine wpList_nil ?_
  refine hK1100 _ _ ?_
  refine hS.splitB (t := 43) rfl ?_ ?_ <;> clear hS
  ·
   intro hg hS
   refine condT hS rfl ?_
   refine wp_skip ?_
   refine hK1099 _ _ ?_
   refine condT hS rfl ?_
   refine wp_seq_k ?_; intro K1101 hK1101
   refine wp_region_lit ?_
   revert aa
   refine qM hR ?_
   refine qA hR rfl (fun _ hS => Yld.fieldAddr hS rfl 1 Try.underlying67 rfl rfl info35 (by decide)) ?_
   intro aa hS
   refine sA hS hR (Yld.loadAgg hS rfl Try.underlying35 rfl info35 rdsQ5 (by rfl)) (by decide) ?_; clear hS; intro aa hS
   revert aa
   refine qA hR rfl (fun _ hS => Yld.fieldAddr hS rfl 8 Try.underlying67 rfl rfl info3 (by decide)) ?_
   refine qA hR rfl (fun _ hS => Yld.load1 hS rfl Try.underlying3 rfl rdQ) ?_
   intro aa hS
   refine sB (Bcall hS rfl Try.call18 (Add_ok (k := k) (i := i) hk (hR.pk (r := tableA _ b _ _ _) pkQ)) (by decide) ?_); clear hS; intro aa ww vv hS hp
   clear hR
   obtain ⟨rfl, hR⟩ := hp
   revert aa
   refine qM hR ?_
   refine qX hR ?_
   refine qX hR ?_
   intro aa hS
   refine sB (Balloc hS hR info29 (by rfl) (by rfl) (by decide) ?_); clear hS hR; intro aa ww bb10 hS hR
   refine sB (Bstore hS hR rfl rfl (by rfl) info29 (by rfl) pkQ (by rfl) (Nat.le_of_ble_eq_true rfl) ?_); clear hR; intro ww hR
   revert aa
   refine qN hR ?_
   intro aa hS
   refine wpList_nil ?_
   refine hK1101 _ _ ?_
   refine wp_seq_k ?_; intro K1102 hK1102
   refine wp_region_lit ?_
   revert aa
   refine qM hR ?_
   refine qA hR rfl (fun _ hS => Yld.fieldAddr hS rfl 1 Try.underlying67 rfl rfl info35 (by decide)) ?_
   intro aa hS
   refine sA hS hR (Yld.loadAgg hS rfl Try.underlying35 rfl info35 rdsQ5 (by rfl)) (by decide) ?_; clear hS; intro aa hS
   revert aa
   refine qA hR rfl (fun _ hS => Yld.fieldAddr hS rfl 8 Try.underlying67 rfl rfl info3 (by decide)) ?_
   refine qA hR rfl (fun _ hS => Yld.load1 hS rfl Try.underlying3 rfl rdQ) ?_
   intro aa hS
   refine sB (Bcall hS rfl Try.call58 (RfAdd_ok (k := k) (i := i) hk (hR.pk (r := r16A _ b2 _ _ _) pkQ)) (by decide) ?_); clear hS; intro aa ww vv hS hp
   clear hR
   obtain ⟨rfl, hR⟩ := hp
   revert aa
   refine qM hR ?_
   refine qX hR ?_
   refine qX hR ?_
   intro aa hS
   refine sB (Balloc hS hR info112 (by rfl) (by rfl) (by decide) ?_); clear hS hR; intro aa ww bb12 hS hR
   refine sB (Bstore hS hR rfl rfl (by rfl) info112 (by rfl) pkQ (by rfl) (Nat.le_of_ble_eq_true rfl) ?_); clear hR; intro ww hR
   revert aa
   refine qN hR ?_
   intro aa hS
   refine wpList_nil ?_
   refine hK1102 _ _ ?_
   refine wp_seq_k ?_; intro K1103 hK1103
   refine wp_region_lit ?_
   refine sA hS hR (Yld.loadAgg hS rfl Try.underlying29 rfl info29 rdsQ2 (by rfl)) (by decide) ?_; clear hS; intro aa hS
   refine sA hS hR (Yld.loadAgg hS rfl Try.underlying112 rfl info112 rdsQ2 (by rfl)) (by decide) ?_; clear hS; intro aa hS
   revert aa
   refine qA hR rfl (fun _ hS => Yld.binRun hS rfl rfl (eql112 _ _ _ _ _ _)) ?_
   refine qB (t := 66) true rfl (by simp) ?_
   refine qM hR ?_
   refine qMg hR ?_
   refine qMg hR ?_
   refine qAg hR rfl rfl rfl (fun _ hS => Yld.eql hS rfl rfl) ?_
   refine qB (t := 70) true rfl (by simp) ?_
   refine qA hR rfl (fun _ hS => Yld.pickT hS rfl rfl) ?_
   refine qN hR ?_
   intro aa hS
   refine wpList_nil ?_
   refine hK1103 _ _ ?_
   refine wp_ret ?_
   repeat first | with_reducible refine thenR ?_ | with_reducible refine blockR ?_ | with_reducible refine scopeR ?_
   refine ret1 (fn := Try.f27) (e := .ret) (.inl rfl) Try.results27 hS hR ⟨_, (.tmp rfl), ?_⟩
   try dsimp only [lay, List.set] at hR
   rw [actT_add (by omega)]
   exact ⟨rfl, (hR.sub exQ)⟩
  ·
   intro hg hS
   refine condF hS rfl ?_
   refine wp_region_lit ?_
   revert aa
   refine qA hR rfl (fun _ hS => Yld.eql hS rfl rfl) ?_
   refine qN hR ?_
   intro aa hS
   refine wpList_nil ?_
   refine hK1099 _ _ ?_
   refine hS.splitB (t := 43) rfl ?_ ?_ <;> clear hS
   ·
    intro hg hS
    refine condT hS rfl ?_
    refine wp_seq_k ?_; intro K1104 hK1104
    refine wp_region_lit ?_
    revert aa
    refine qM hR ?_
    refine qA hR rfl (fun _ hS => Yld.fieldAddr hS rfl 1 Try.underlying67 rfl rfl info35 (by decide)) ?_
    intro aa hS
    refine sA hS hR (Yld.loadAgg hS rfl Try.underlying35 rfl info35 rdsQ5 (by rfl)) (by decide) ?_; clear hS; intro aa hS
    revert aa
    refine qA hR rfl (fun _ hS => Yld.fieldAddr hS rfl 8 Try.underlying67 rfl rfl info3 (by decide)) ?_
    refine qA hR rfl (fun _ hS => Yld.load1 hS rfl Try.underlying3 rfl rdQ) ?_
    intro aa hS
    refine sB (Bcall hS rfl Try.call18 (Add_ok (k := k) (i := i) hk (hR.pk (r := tableA _ b _ _ _) pkQ)) (by decide) ?_); clear hS; intro aa ww vv hS hp
    clear hR
    obtain ⟨rfl, hR⟩ := hp
    revert aa
    refine qM hR ?_
    refine qX hR ?_
    refine qX hR ?_
    intro aa hS
    refine sB (Balloc hS hR info29 (by rfl) (by rfl) (by decide) ?_); clear hS hR; intro aa ww bb10 hS hR
    refine sB (Bstore hS hR rfl rfl (by rfl) info29 (by rfl) pkQ (by rfl) (Nat.le_of_ble_eq_true rfl) ?_); clear hR; intro ww hR
    revert aa
    refine qN hR ?_
    intro aa hS
    refine wpList_nil ?_
    refine hK1104 _ _ ?_
    refine wp_seq_k ?_; intro K1105 hK1105
    refine wp_region_lit ?_
    revert aa
    refine qM hR ?_
    refine qA hR rfl (fun _ hS => Yld.fieldAddr hS rfl 1 Try.underlying67 rfl rfl info35 (by decide)) ?_
    intro aa hS
    refine sA hS hR (Yld.loadAgg hS rfl Try.underlying35 rfl info35 rdsQ5 (by rfl)) (by decide) ?_; clear hS; intro aa hS
    revert aa
    refine qA hR rfl (fun _ hS => Yld.fieldAddr hS rfl 8 Try.underlying67 rfl rfl info3 (by decide)) ?_
    refine qA hR rfl (fun _ hS => Yld.load1 hS rfl Try.underlying3 rfl rdQ) ?_
    intro aa hS
    refine sB (Bcall hS rfl Try.call58 (RfAdd_ok (k := k) (i := i) hk (hR.pk (r := r16A _ b2 _ _ _) pkQ)) (by decide) ?_); clear hS; intro aa ww vv hS hp
    clear hR
    obtain ⟨rfl, hR⟩ := hp
    revert aa
    refine qM hR ?_
    refine qX hR ?_
    refine qX hR ?_
    intro aa hS
    refine sB (Balloc hS hR info112 (by rfl) (by rfl) (by decide) ?_); clear hS hR; intro aa ww bb12 hS hR
    refine sB (Bstore hS hR rfl rfl (by rfl) info112 (by rfl) pkQ (by rfl) (Nat.le_of_ble_eq_true rfl) ?_); clear hR; intro ww hR
    revert aa
    refine qN hR ?_
    intro aa hS
    refine wpList_nil ?_
    refine hK1105 _ _ ?_
    refine wp_seq_k ?_; intro K1106 hK1106
    refine wp_region_lit ?_
    refine sA hS hR (Yld.loadAgg hS rfl Try.underlying29 rfl info29 rdsQ2 (by rfl)) (by decide) ?_; clear hS; intro aa hS
    refine sA hS hR (Yld.loadAgg hS rfl Try.underlying112 rfl info112 rdsQ2 (by rfl)) (by decide) ?_; clear hS; intro aa hS
    revert aa
    refine qA hR rfl (fun _ hS => Yld.binRun hS rfl rfl (eql112 _ _ _ _ _ _)) ?_
    refine qB (t := 66) true rfl (by simp) ?_
    refine qM hR ?_
    refine qMg hR ?_
    refine qMg hR ?_
    refine qAg hR rfl rfl rfl (fun _ hS => Yld.eql hS rfl rfl) ?_
    refine qB (t := 70) true rfl (by simp) ?_
    refine qA hR rfl (fun _ hS => Yld.pickT hS rfl rfl) ?_
    refine qN hR ?_
    intro aa hS
    refine wpList_nil ?_
    refine hK1106 _ _ ?_
    refine wp_ret ?_
    repeat first | with_reducible refine thenR ?_ | with_reducible refine blockR ?_ | with_reducible refine scopeR ?_
    refine ret1 (fn := Try.f27) (e := .ret) (.inl rfl) Try.results27 hS hR ⟨_, (.tmp rfl), ?_⟩
    try dsimp only [lay, List.set] at hR
    rw [actT_add (by omega)]
    exact ⟨rfl, (hR.sub exQ)⟩
   ·
    intro hg hS
    refine condF hS rfl ?_
    refine wp_seq_k ?_; intro K1107 hK1107
    refine wp_region_lit ?_
    revert aa
    refine qA hR rfl (fun _ hS => Yld.eql hS rfl rfl) ?_
    refine qN hR ?_
    intro aa hS
    refine wpList_nil ?_
    refine hK1107 _ _ ?_
    refine hS.splitB (t := 72) rfl ?_ ?_ <;> clear hS
    ·
     intro hg hS
     refine condT hS rfl ?_
     refine wp_seq_k ?_; intro K1108 hK1108
     refine wp_region_lit ?_
     revert aa
     refine qM hR ?_
     intro aa hS
     refine sA hS hR (Yld.loadAgg hS rfl Try.underlying29 rfl info29 rdsQ2 (by rfl)) (by decide) ?_; clear hS; intro aa hS
     refine sB (Bcall hS rfl Try.call21 (TbOut (s := hs) (u := hu) (hR.pk (r := tableA _ b _ _ _) pkQ)) (by decide) ?_); clear hS; intro aa ww vv hS hp
     clear hR
     obtain ⟨rfl, hR⟩ := hp
     revert aa
     refine qM hR ?_
     refine qX hR ?_
     refine qX hR ?_
     intro aa hS
     refine sB (Balloc hS hR info35 (by rfl) (by rfl) (by decide) ?_); clear hS hR; intro aa ww bb14 hS hR
     refine sB (Bstore hS hR rfl rfl (by rfl) info35 (by rfl) pkQ (by rfl) (Nat.le_of_ble_eq_true rfl) ?_); clear hR; intro ww hR
     revert aa
     refine qN hR ?_
     intro aa hS
     refine wpList_nil ?_
     refine hK1108 _ _ ?_
     refine wp_seq_k ?_; intro K1109 hK1109
     refine wp_region_lit ?_
     revert aa
     refine qM hR ?_
     intro aa hS
     refine sA hS hR (Yld.loadAgg hS rfl Try.underlying29 rfl info29 rdsQ2 (by rfl)) (by decide) ?_; clear hS; intro aa hS
     refine sB (Bcall hS rfl Try.call59 (RfOut_ok (s := hs) (u := hu) (hR.pk (r := r16A _ b2 _ _ _) pkQ)) (by decide) ?_); clear hS; intro aa ww vv hS hp
     clear hR
     obtain ⟨rfl, hR⟩ := hp
     revert aa
     refine qM hR ?_
     refine qX hR ?_
     refine qX hR ?_
     intro aa hS
     refine sB (Balloc hS hR info35 (by rfl) (by rfl) (by decide) ?_); clear hS hR; intro aa ww bb16 hS hR
     refine sB (Bstore hS hR rfl rfl (by rfl) info35 (by rfl) pkQ (by rfl) (Nat.le_of_ble_eq_true rfl) ?_); clear hR; intro ww hR
     revert aa
     refine qN hR ?_
     intro aa hS
     refine wpList_nil ?_
     refine hK1109 _ _ ?_
     refine wp_seq_k ?_; intro K1110 hK1110
     refine wp_region_lit ?_
     refine sA hS hR (Yld.loadAgg hS rfl Try.underlying35 rfl info35 rdsQ5 (by rfl)) (by decide) ?_; clear hS; intro aa hS
     refine sA hS hR (Yld.loadAgg hS rfl Try.underlying35 rfl info35 rdsQ5 (by rfl)) (by decide) ?_; clear hS; intro aa hS
     revert aa
     refine qA hR rfl (fun _ hS => Yld.binRun hS rfl rfl (eql35 _ _ _ _ _ _ _ _ _ _ _ _)) ?_
     refine qB (t := 88) true rfl (by simp) ?_
     refine qM hR ?_
     refine qMg hR ?_
     refine qMg hR ?_
     refine qAg hR rfl rfl rfl (fun _ hS => Yld.eql hS rfl rfl) ?_
     refine qB (t := 92) true rfl (by simp) ?_
     refine qA hR rfl (fun _ hS => Yld.pickT hS rfl rfl) ?_
     refine qN hR ?_
     intro aa hS
     refine wpList_nil ?_
     refine hK1110 _ _ ?_
     refine wp_ret ?_
     repeat first | with_reducible refine thenR ?_ | with_reducible refine blockR ?_ | with_reducible refine scopeR ?_
     refine ret1 (fn := Try.f27) (e := .ret) (.inl rfl) Try.results27 hS hR ⟨_, (.tmp rfl), ?_⟩
     try dsimp only [lay, List.set] at hR
     rw [actT_out (by omega) ho]
     exact ⟨rfl, (hR.sub exQ)⟩
    ·
     intro hg hS
     refine condF hS rfl ?_
     refine wp_skip ?_
     refine hK1097 _ _ ?_
     refine wp_seq_k ?_; intro K1111 hK1111
     refine drawn krQ hR (Ex.of_pk2 (r := tableA _ b _ _ _) (s := r16A _ b2 _ _ _) pkQ pkQ) ?_; clear hR; intro ww hR hR0
     revert aa
     refine eA 0 rfl krQ (fun _ _ _ h => h) hR0 rfl (fun _ hS => Yld.move hS rfl) ?_
     intro aa hS
     refine dA 1 rfl krQ krQ krQ (fun _ _ _ h => h) hS hR0 (Yld.loadAgg hS rfl Try.underlying29 rfl info29 rdsQ2 (by rfl)) (by decide) ?_; clear hS; intro aa hS
     revert aa
     refine eA 2 rfl krQ (fun _ _ _ h => h) hR0 rfl (fun _ hS => Yld.fieldAddr hS rfl 8 Try.underlying67 rfl rfl info3 (by decide)) ?_
     refine eA 3 rfl krQ (fun _ _ _ h => h) hR0 rfl (fun _ hS => Yld.load1 hS rfl Try.underlying3 rfl rdQ) ?_
     refine eA 5 rfl krQ (fun _ _ _ h => h) hR0 rfl (fun _ hS => Yld.move hS rfl) ?_
     intro aa hS
     refine dA 6 rfl krQ krQ krQ (fun _ _ _ h => h) hS hR0 (Yld.loadAgg hS rfl Try.underlying29 rfl info29 rdsQ2 (by rfl)) (by decide) ?_; clear hS; intro aa hS
     revert aa
     refine eA 7 rfl krQ (fun _ _ _ h => h) hR0 rfl (fun _ hS => Yld.fieldAddr hS rfl 8 Try.underlying67 rfl rfl info3 (by decide)) ?_
     refine eA 8 rfl krQ (fun _ _ _ h => h) hR0 rfl (fun _ hS => Yld.load1 hS rfl Try.underlying3 rfl rdQ) ?_
     intro aa hS
     refine dOne (i := 4) krQ ?_
     refine dop rfl (Bcall hS rfl Try.call15 (TbMove (s := hs) (u := hu) (i := i) (hR.pk (r := tableA _ b _ _ _) pkQ)) (by decide) ?_); clear hS; intro aa ww vv hS hp
     clear hR hR0
     obtain ⟨rfl, hR⟩ := hp
     refine dnext (hR.sub exQ) ?_; intro hR0
     refine dOne (i := 9) krQ ?_
     refine dop rfl (Bcall hS rfl Try.call60 (RfMove_ok (s := hs) (u := hu) (i := i) (hR.pk (r := r16A _ b2 _ _ _) pkQ)) (by decide) ?_); clear hS; intro aa ww vv hS hp
     clear hR hR0
     obtain ⟨rfl, hR⟩ := hp
     refine dnext (hR.sub exQ) ?_; intro hR0
     revert aa
     refine eA 10 rfl krQ (fun _ _ _ h => h) hR0 rfl (fun _ hS => Yld.eql hS rfl rfl) ?_
     refine qB (t := 104) true rfl (by simp) ?_
     refine eA 11 rfl krQ (fun _ _ _ h => h) hR0 rfl (fun _ hS => Yld.assign hS rfl) ?_
     intro aa hS
     refine wpAnyH_done krQ ?_ _; clear hR0
     refine hK1111 _ _ ?_
     refine wp_ret ?_
     repeat first | with_reducible refine thenR ?_ | with_reducible refine blockR ?_ | with_reducible refine scopeR ?_
     refine ret1 (fn := Try.f27) (e := .ret) (.inl rfl) Try.results27 hS hR ⟨_, (.tmp rfl), ?_⟩
     rw [actT_mov (by omega) (by omega) (by omega) hkd.1 ho]
     exact ⟨rfl, (hR.sub exQ)⟩
 refine wp_seq_k ?_; intro K1112 hK1112
 refine wp_region_lit ?_
 by_cases hn : (T.A.at s).isSome = true
 ·
  refine sA hS hR (Yld.fieldAddr hS rfl 0 Try.underlying67 rfl rfl info5 (by decide)) (by decide) ?_; clear hS; intro aa hS
  obtain ⟨va, hat⟩ := Option.isSome_iff_exists.1 hn
  dsimp only [lay, List.set] at hR
  revert aa
  refine qA hR rfl (fun _ hS => Yld.load1 hS rfl Try.underlying5 rfl rdQ) ?_
  refine qA hR rfl (fun _ hS => by first | exact Yld.rem64 hS rfl rfl (by omega) | exact Yld.rem hS rfl rfl (by omega)) ?_
  refine qA hR rfl (fun _ hS => Yld.eql hS rfl rfl) ?_
  intro aa hS
  refine wpList_nil ?_
  refine hK1112 _ _ ?_
  refine hS.splitB (t := 26) rfl ?_ ?_ <;> clear hS
  ·
   intro hg hS
   have hg0 : kd % 2 = 0 := by omega
   refine condT hS rfl ?_
   refine wp_seq_k ?_; intro K1113 hK1113
   obtain ⟨ba, r, c, hTF, hS4, hR⟩ := (hR.pk (r := r16A _ b2 _ _ _) pkQ).r16E
   have hFl := hTF.len
   have hrc := (hR.pk (r := sls r _ _ _ _ _) pkQ).slsLe.1
   refine drawn krQ hR Ex.refl ?_; clear hR; intro ww hR hR0
   revert aa
   refine eA 0 rfl krQ (fun _ _ _ h => h) hR0 rfl (fun _ hS => Yld.move hS rfl) ?_
   refine eA 1 rfl krQ (fun _ _ _ h => h) hR0 rfl (fun _ hS => Yld.nilCheck hS rfl) ?_
   refine eA 2 rfl krQ (fun _ _ _ h => h) hR0 rfl (fun _ hS => Yld.fieldAddr hS rfl 1 Try.underlying111 rfl rfl info107 (by decide)) ?_
   refine eA 3 rfl krQ (fun _ _ _ h => h) hR0 rfl (fun _ hS => Yld.load1 hS rfl Try.underlying107 rfl rdQ) ?_
   refine eA 4 rfl krQ (fun _ _ _ h => h) hR0 rfl (fun _ hS => Yld.fieldAddr hS rfl 6 Try.underlying67 rfl rfl info3 (by decide)) ?_
   refine eA 5 rfl krQ (fun _ _ _ h => h) hR0 rfl (fun _ hS => Yld.load1 hS rfl Try.underlying3 rfl rdQ) ?_
   intro aa hS
   refine dTwo (i := 6) (j := 10) krQ ?_ ?_
   ·
    refine dop rfl (Bcall hS rfl Try.call57 (RAt_ok (A := T.A) (s := s) (hR.pk (r := rar _ _ _ ba _) pkQ)) (by decide) ?_); clear hS; intro aa ww vv hS hp
    clear hR hR0
    obtain ⟨rfl, hR⟩ := hp
    rw [atV_some hat] at hS
    refine dnext (hR.sub exQ) ?_; intro hR0
    revert aa
    refine eA 7 rfl krQ (fun _ _ _ h => h) hR0 rfl (fun _ hS => Yld.move hS rfl) ?_
    refine eA 8 rfl krQ (fun _ _ _ h => h) hR0 rfl (fun _ hS => Yld.extract hS rfl rfl) ?_
    refine eA 9 rfl krQ (fun _ _ _ h => h) hR0 rfl (fun _ hS => Yld.extract hS rfl rfl) ?_
    refine qB (t := 36) true rfl (by rfl) ?_
    intro aa hS
    refine dOne (i := 10) krQ ?_
    refine dop rfl (Balloc hS hR info112 (by rfl) (by rfl) (by decide) ?_); clear hS hR hR0; intro aa ww bb8 hS hR
    refine dnext (hR.sub exQ) ?_; intro hR0
    refine dOne (i := 11) krQ ?_
    refine dop rfl (Bstore hS hR rfl rfl (by rfl) info112 (by rfl) pkQ (by rfl) (Nat.le_of_ble_eq_true rfl) ?_); clear hR hR0; intro ww hR
    refine dnext (hR.sub exQ) ?_; intro hR0
    revert aa
    refine eA 12 rfl krQ (fun _ _ _ h => h) hR0 rfl (fun _ hS => Yld.assign hS rfl) ?_
    intro aa hS
    refine wpAnyH_done krQ ?_ _; clear hR0
    refine hK1113 _ _ ?_
    refine wp_seq_k ?_; intro K1114 hK1114
    refine wp_region_lit ?_
    revert aa
    refine qM hR ?_
    intro aa hS
    refine wpList_nil ?_
    refine hK1114 _ _ ?_
    refine condT hS rfl ?_
    refine wp_region_lit ?_
    refine sA hS hR (Yld.loadAgg hS rfl Try.underlying112 rfl info112 rdsQ2 (by rfl)) (by decide) ?_; clear hS; intro aa hS
    refine sB (Bstore hS hR rfl rfl (by rfl) info29 (by rfl) pkQ (by rfl) (Nat.le_of_ble_eq_true rfl) ?_); clear hR; intro ww hR
    refine wpList_nil ?_
    try dsimp only [lay, List.set] at hR
    replace hR := Sep.r16J (t := rt) (b := b2) (n := n) (T := T) hTF hS4 (hR.sub exQ)
    exact tail1096 s va (own_at hg0 hat) _ _ (hS.le (Le.cons rfl (Le.cons rfl (Le.cons rfl (Le.cons rfl (Le.nil _)))))) (hR.sub exQ)
   ·
    refine dop rfl (Balloc hS hR info112 (by rfl) (by rfl) (by decide) ?_); clear hS hR hR0; intro aa ww bb8 hS hR
    refine dnext (hR.sub exQ) ?_; intro hR0
    refine dOne (i := 6) krQ ?_
    refine dop rfl (Bcall hS rfl Try.call57 (RAt_ok (A := T.A) (s := s) (hR.pk (r := rar _ _ _ ba _) pkQ)) (by decide) ?_); clear hS; intro aa ww vv hS hp
    clear hR hR0
    obtain ⟨rfl, hR⟩ := hp
    rw [atV_some hat] at hS
    refine dnext (hR.sub exQ) ?_; intro hR0
    revert aa
    refine eA 7 rfl krQ (fun _ _ _ h => h) hR0 rfl (fun _ hS => Yld.move hS rfl) ?_
    refine eA 8 rfl krQ (fun _ _ _ h => h) hR0 rfl (fun _ hS => Yld.extract hS rfl rfl) ?_
    refine eA 9 rfl krQ (fun _ _ _ h => h) hR0 rfl (fun _ hS => Yld.extract hS rfl rfl) ?_
    refine qB (t := 36) true rfl (by rfl) ?_
    intro aa hS
    refine dOne (i := 11) krQ ?_
    refine dop rfl (Bstore hS hR rfl rfl (by rfl) info112 (by rfl) pkQ (by rfl) (Nat.le_of_ble_eq_true rfl) ?_); clear hR hR0; intro ww hR
    refine dnext (hR.sub exQ) ?_; intro hR0
    revert aa
    refine eA 12 rfl krQ (fun _ _ _ h => h) hR0 rfl (fun _ hS => Yld.assign hS rfl) ?_
    intro aa hS
    refine wpAnyH_done krQ ?_ _; clear hR0
    refine hK1113 _ _ ?_
    refine wp_seq_k ?_; intro K1115 hK1115
    refine wp_region_lit ?_
    revert aa
    refine qM hR ?_
    intro aa hS
    refine wpList_nil ?_
    refine hK1115 _ _ ?_
    refine condT hS rfl ?_
    refine wp_region_lit ?_
    refine sA hS hR (Yld.loadAgg hS rfl Try.underlying112 rfl info112 rdsQ2 (by rfl)) (by decide) ?_; clear hS; intro aa hS
    refine sB (Bstore hS hR rfl rfl (by rfl) info29 (by rfl) pkQ (by rfl) (Nat.le_of_ble_eq_true rfl) ?_); clear hR; intro ww hR
    refine wpList_nil ?_
    try dsimp only [lay, List.set] at hR
    replace hR := Sep.r16J (t := rt) (b := b2) (n := n) (T := T) hTF hS4 (hR.sub exQ)
    exact tail1096 s va (own_at hg0 hat) _ _ (hS.le (Le.cons rfl (Le.cons rfl (Le.cons rfl (Le.cons rfl (Le.nil _)))))) (hR.sub exQ)
  ·
   intro hg hS
   have hg0 : ¬ kd % 2 = 0 := by omega
   refine condF hS rfl ?_
   refine wp_skip ?_
   try dsimp only [lay, List.set] at hR
   exact tail1096 s u (own_odd hg0) _ _ (hS.le (Le.cons rfl (Le.cons rfl (Le.cons rfl (Le.cons rfl (Le.nil _)))))) (hR.sub exQ)
 ·
  refine sA hS hR (Yld.fieldAddr hS rfl 0 Try.underlying67 rfl rfl info5 (by decide)) (by decide) ?_; clear hS; intro aa hS
  have hat : T.A.at s = none := by
   cases hv : T.A.at s with
   | none => rfl
   | some o => rw [hv] at hn; simp at hn
  dsimp only [lay, List.set] at hR
  revert aa
  refine qA hR rfl (fun _ hS => Yld.load1 hS rfl Try.underlying5 rfl rdQ) ?_
  refine qA hR rfl (fun _ hS => by first | exact Yld.rem64 hS rfl rfl (by omega) | exact Yld.rem hS rfl rfl (by omega)) ?_
  refine qA hR rfl (fun _ hS => Yld.eql hS rfl rfl) ?_
  intro aa hS
  refine wpList_nil ?_
  refine hK1112 _ _ ?_
  refine hS.splitB (t := 26) rfl ?_ ?_ <;> clear hS
  ·
   intro hg hS
   have hg0 : kd % 2 = 0 := by omega
   refine condT hS rfl ?_
   refine wp_seq_k ?_; intro K1116 hK1116
   obtain ⟨ba, r, c, hTF, hS4, hR⟩ := (hR.pk (r := r16A _ b2 _ _ _) pkQ).r16E
   have hFl := hTF.len
   have hrc := (hR.pk (r := sls r _ _ _ _ _) pkQ).slsLe.1
   refine drawn krQ hR Ex.refl ?_; clear hR; intro ww hR hR0
   revert aa
   refine eA 0 rfl krQ (fun _ _ _ h => h) hR0 rfl (fun _ hS => Yld.move hS rfl) ?_
   refine eA 1 rfl krQ (fun _ _ _ h => h) hR0 rfl (fun _ hS => Yld.nilCheck hS rfl) ?_
   refine eA 2 rfl krQ (fun _ _ _ h => h) hR0 rfl (fun _ hS => Yld.fieldAddr hS rfl 1 Try.underlying111 rfl rfl info107 (by decide)) ?_
   refine eA 3 rfl krQ (fun _ _ _ h => h) hR0 rfl (fun _ hS => Yld.load1 hS rfl Try.underlying107 rfl rdQ) ?_
   refine eA 4 rfl krQ (fun _ _ _ h => h) hR0 rfl (fun _ hS => Yld.fieldAddr hS rfl 6 Try.underlying67 rfl rfl info3 (by decide)) ?_
   refine eA 5 rfl krQ (fun _ _ _ h => h) hR0 rfl (fun _ hS => Yld.load1 hS rfl Try.underlying3 rfl rdQ) ?_
   intro aa hS
   refine dTwo (i := 6) (j := 10) krQ ?_ ?_
   ·
    refine dop rfl (Bcall hS rfl Try.call57 (RAt_ok (A := T.A) (s := s) (hR.pk (r := rar _ _ _ ba _) pkQ)) (by decide) ?_); clear hS; intro aa ww vv hS hp
    clear hR hR0
    obtain ⟨rfl, hR⟩ := hp
    rw [atV_none hat] at hS
    refine dnext (hR.sub exQ) ?_; intro hR0
    revert aa
    refine eA 7 rfl krQ (fun _ _ _ h => h) hR0 rfl (fun _ hS => Yld.move hS rfl) ?_
    refine eA 8 rfl krQ (fun _ _ _ h => h) hR0 rfl (fun _ hS => Yld.extract hS rfl rfl) ?_
    refine eA 9 rfl krQ (fun _ _ _ h => h) hR0 rfl (fun _ hS => Yld.extract hS rfl rfl) ?_
    refine qB (t := 36) false rfl (by rfl) ?_
    intro aa hS
    refine dOne (i := 10) krQ ?_
    refine dop rfl (Balloc hS hR info112 (by rfl) (by rfl) (by decide) ?_); clear hS hR hR0; intro aa ww bb8 hS hR
    refine dnext (hR.sub exQ) ?_; intro hR0
    refine dOne (i := 11) krQ ?_
    refine dop rfl (Bstore hS hR rfl rfl (by rfl) info112 (by rfl) pkQ (by rfl) (Nat.le_of_ble_eq_true rfl) ?_); clear hR hR0; intro ww hR
    refine dnext (hR.sub exQ) ?_; intro hR0
    revert aa
    refine eA 12 rfl krQ (fun _ _ _ h => h) hR0 rfl (fun _ hS => Yld.assign hS rfl) ?_
    intro aa hS
    refine wpAnyH_done krQ ?_ _; clear hR0
    refine hK1116 _ _ ?_
    refine wp_seq_k ?_; intro K1117 hK1117
    refine wp_region_lit ?_
    revert aa
    refine qM hR ?_
    intro aa hS
    refine wpList_nil ?_
    refine hK1117 _ _ ?_
    refine condF hS rfl ?_
    refine wp_skip ?_
    try dsimp only [lay, List.set] at hR
    replace hR := Sep.r16J (t := rt) (b := b2) (n := n) (T := T) hTF hS4 (hR.sub exQ)
    exact tail1096 s u (own_no hg0 hat) _ _ (hS.le (Le.cons rfl (Le.cons rfl (Le.cons rfl (Le.cons rfl (Le.nil _)))))) (hR.sub exQ)
   ·
    refine dop rfl (Balloc hS hR info112 (by rfl) (by rfl) (by decide) ?_); clear hS hR hR0; intro aa ww bb8 hS hR
    refine dnext (hR.sub exQ) ?_; intro hR0
    refine dOne (i := 6) krQ ?_
    refine dop rfl (Bcall hS rfl Try.call57 (RAt_ok (A := T.A) (s := s) (hR.pk (r := rar _ _ _ ba _) pkQ)) (by decide) ?_); clear hS; intro aa ww vv hS hp
    clear hR hR0
    obtain ⟨rfl, hR⟩ := hp
    rw [atV_none hat] at hS
    refine dnext (hR.sub exQ) ?_; intro hR0
    revert aa
    refine eA 7 rfl krQ (fun _ _ _ h => h) hR0 rfl (fun _ hS => Yld.move hS rfl) ?_
    refine eA 8 rfl krQ (fun _ _ _ h => h) hR0 rfl (fun _ hS => Yld.extract hS rfl rfl) ?_
    refine eA 9 rfl krQ (fun _ _ _ h => h) hR0 rfl (fun _ hS => Yld.extract hS rfl rfl) ?_
    refine qB (t := 36) false rfl (by rfl) ?_
    intro aa hS
    refine dOne (i := 11) krQ ?_
    refine dop rfl (Bstore hS hR rfl rfl (by rfl) info112 (by rfl) pkQ (by rfl) (Nat.le_of_ble_eq_true rfl) ?_); clear hR hR0; intro ww hR
    refine dnext (hR.sub exQ) ?_; intro hR0
    revert aa
    refine eA 12 rfl krQ (fun _ _ _ h => h) hR0 rfl (fun _ hS => Yld.assign hS rfl) ?_
    intro aa hS
    refine wpAnyH_done krQ ?_ _; clear hR0
    refine hK1116 _ _ ?_
    refine wp_seq_k ?_; intro K1118 hK1118
    refine wp_region_lit ?_
    revert aa
    refine qM hR ?_
    intro aa hS
    refine wpList_nil ?_
    refine hK1118 _ _ ?_
    refine condF hS rfl ?_
    refine wp_skip ?_
    try dsimp only [lay, List.set] at hR
    replace hR := Sep.r16J (t := rt) (b := b2) (n := n) (T := T) hTF hS4 (hR.sub exQ)
    exact tail1096 s u (own_no hg0 hat) _ _ (hS.le (Le.cons rfl (Le.cons rfl (Le.cons rfl (Le.cons rfl (Le.nil _)))))) (hR.sub exQ)
  ·
   intro hg hS
   have hg0 : ¬ kd % 2 = 0 := by omega
   refine condF hS rfl ?_
   refine wp_skip ?_
   try dsimp only [lay, List.set] at hR
   exact tail1096 s u (own_odd hg0) _ _ (hS.le (Le.cons rfl (Le.cons rfl (Le.cons rfl (Le.cons rfl (Le.nil _)))))) (hR.sub exQ)
end Go.Proofs.Ythhndmlfgjcgpaa.Sx
